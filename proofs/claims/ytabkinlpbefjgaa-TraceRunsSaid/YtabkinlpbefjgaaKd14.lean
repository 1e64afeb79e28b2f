/- Texts of this seat that a claim bears, put together by this session's own program shake.py: X6. -/
import Derived.Test.YtabkinlpbefjgaaKd5
namespace Go.Proofs.Ytabkinlpbefjgaa.X
open Go.RowKit Go.Proofs.YtabkinlpbefjgaaW.PrintWords Go.Proofs.YtabkinlpbefjgaaW.PrintLast Go.Proofs.YtabkinlpbefjgaaW.PrintMore
attribute [local go_sem] max2_int min2_int max_two min_two max_three min_three max_four min_four   -- for this text's walks alone
set_option linter.unusedVariables false
set_option linter.unusedSimpArgs false
mutual
def brazierlaw11_Light.j0 : Nat → Bool → List (S57) → List (S47) → Option (Bool)
  | 0, _, _, _ => none
  | k + 1, x21, x160000, x160001 => if x21 = true then (some false) else (brazierlaw11_Light.l0 k x160000 (x160000.length : Int) 0 x160000 x160001)
def brazierlaw11_Light.l0 : Nat → List (S57) → Int → Int → List (S57) → List (S47) → Option (Bool)
  | 0, _, _, _, _, _ => none
  | k + 1, x23, x24, x25, x160000, x160001 => if x25 < x24 then (if 0 ≤ x25 then (if x25 < (x23.length : Int) then (if (((rd_T57 x23 x25).f0).size : Int) > 100 then (some false) else (brazierlaw11_Light.l0 k x23 x24 (wrap64 (x25 + 1)) x160000 x160001)) else (none)) else (none)) else (brazierlaw11_Light.l1 k 0 x160001 (x160001.length : Int) 0)
def brazierlaw11_Light.l1 : Nat → Int → List (S47) → Int → Int → Option (Bool)
  | 0, _, _, _, _ => none
  | k + 1, x5, x35, x36, x37 => if x37 < x36 then (if 0 ≤ x37 then (if x37 < (x35.length : Int) then (if (((rd_T47 x35 x37).f0).size : Int) > 100 then (brazierlaw11_Light.j3 k x5 x35 x36 x37 true ((rd_T47 x35 x37).f0) ((rd_T47 x35 x37).f1) ((rd_T47 x35 x37).f2) ((rd_T47 x35 x37).f3)) else (brazierlaw11_Light.j3 k x5 x35 x36 x37 (decide ((((rd_T47 x35 x37).f3).length : Int) > 80)) ((rd_T47 x35 x37).f0) ((rd_T47 x35 x37).f1) ((rd_T47 x35 x37).f2) ((rd_T47 x35 x37).f3))) else (none)) else (none)) else (some true)
def brazierlaw11_Light.j3 : Nat → Int → List (S47) → Int → Int → Bool → ByteArray → Int → Int → List (S41) → Option (Bool)
  | 0, _, _, _, _, _, _, _, _, _ => none
  | k + 1, x5, x35, x36, x37, x50, x164000, x164001, x164002, x164003 => if x50 = true then (some false) else (brazierlaw11_Light.l2 k x5 x35 x36 x37 x164003 (x164003.length : Int) 0)
def brazierlaw11_Light.l2 : Nat → Int → List (S47) → Int → Int → List (S41) → Int → Int → Option (Bool)
  | 0, _, _, _, _, _, _, _ => none
  | k + 1, x5, x35, x36, x37, x52, x53, x54 => if x54 < x53 then (if 0 ≤ x54 then (if x54 < (x52.length : Int) then (if (((rd_T41 x52 x54).f0).length : Int) > 100 then (brazierlaw11_Light.j5 k (wrap64 (x5 + (((rd_T41 x52 x54).f0).length : Int))) x35 x36 x37 x52 x53 x54 true ((rd_T41 x52 x54).f0) ((rd_T41 x52 x54).f1) ((rd_T41 x52 x54).f2) ((rd_T41 x52 x54).f3) ((rd_T41 x52 x54).f4)) else (brazierlaw11_Light.j5 k (wrap64 (x5 + (((rd_T41 x52 x54).f0).length : Int))) x35 x36 x37 x52 x53 x54 (decide ((wrap64 (x5 + (((rd_T41 x52 x54).f0).length : Int))) > 400)) ((rd_T41 x52 x54).f0) ((rd_T41 x52 x54).f1) ((rd_T41 x52 x54).f2) ((rd_T41 x52 x54).f3) ((rd_T41 x52 x54).f4))) else (none)) else (none)) else (brazierlaw11_Light.l1 k x5 x35 x36 (wrap64 (x37 + 1)))
def brazierlaw11_Light.j5 : Nat → Int → List (S47) → Int → Int → List (S41) → Int → Int → Bool → List (S44) → Int → Int → Int → Int → Option (Bool)
  | 0, _, _, _, _, _, _, _, _, _, _, _, _, _ => none
  | k + 1, x5, x35, x36, x37, x52, x53, x54, x70, x166000, x166001, x166002, x166003, x166004 => if x70 = true then (some false) else (brazierlaw11_Light.l3 k x5 x35 x36 x37 x52 x53 x54 x166000 (x166000.length : Int) 0)
def brazierlaw11_Light.l3 : Nat → Int → List (S47) → Int → Int → List (S41) → Int → Int → List (S44) → Int → Int → Option (Bool)
  | 0, _, _, _, _, _, _, _, _, _, _ => none
  | k + 1, x5, x35, x36, x37, x52, x53, x54, x72, x73, x74 => if x74 < x73 then (if 0 ≤ x74 then (if x74 < (x72.length : Int) then (if (((rd_T44 x72 x74).f6).size : Int) > 100 then (some false) else (if (((rd_T44 x72 x74).f7).length : Int) > 20 then (some false) else (brazierlaw11_Light.l3 k x5 x35 x36 x37 x52 x53 x54 x72 x73 (wrap64 (x74 + 1))))) else (none)) else (none)) else (brazierlaw11_Light.l2 k x5 x35 x36 x37 x52 x53 (wrap64 (x54 + 1)))
end
def brazierlaw11_Light.f (k : Nat) (l0_0 : List (S57)) (l0_1 : List (S47)) : Option (Bool) := if (l0_1.length : Int) > 8 then (brazierlaw11_Light.j0 k true l0_0 l0_1) else (brazierlaw11_Light.j0 k (decide ((l0_0.length : Int) > 70)) l0_0 l0_1)
theorem brazierlaw11_Light.mono_l : ∀ k, (∀ y0 y1 y2, LeO (brazierlaw11_Light.j0 k y0 y1 y2) (brazierlaw11_Light.j0 (k + 1) y0 y1 y2)) ∧ (∀ y0 y1 y2 y3 y4, LeO (brazierlaw11_Light.l0 k y0 y1 y2 y3 y4) (brazierlaw11_Light.l0 (k + 1) y0 y1 y2 y3 y4)) ∧ (∀ y0 y1 y2 y3, LeO (brazierlaw11_Light.l1 k y0 y1 y2 y3) (brazierlaw11_Light.l1 (k + 1) y0 y1 y2 y3)) ∧ (∀ y0 y1 y2 y3 y4 y5 y6 y7 y8, LeO (brazierlaw11_Light.j3 k y0 y1 y2 y3 y4 y5 y6 y7 y8) (brazierlaw11_Light.j3 (k + 1) y0 y1 y2 y3 y4 y5 y6 y7 y8)) ∧ (∀ y0 y1 y2 y3 y4 y5 y6, LeO (brazierlaw11_Light.l2 k y0 y1 y2 y3 y4 y5 y6) (brazierlaw11_Light.l2 (k + 1) y0 y1 y2 y3 y4 y5 y6)) ∧ (∀ y0 y1 y2 y3 y4 y5 y6 y7 y8 y9 y10 y11 y12, LeO (brazierlaw11_Light.j5 k y0 y1 y2 y3 y4 y5 y6 y7 y8 y9 y10 y11 y12) (brazierlaw11_Light.j5 (k + 1) y0 y1 y2 y3 y4 y5 y6 y7 y8 y9 y10 y11 y12)) ∧ (∀ y0 y1 y2 y3 y4 y5 y6 y7 y8 y9, LeO (brazierlaw11_Light.l3 k y0 y1 y2 y3 y4 y5 y6 y7 y8 y9) (brazierlaw11_Light.l3 (k + 1) y0 y1 y2 y3 y4 y5 y6 y7 y8 y9))
  | 0 => ⟨fun _ _ _ r h => by simp [brazierlaw11_Light.j0] at h, fun _ _ _ _ _ r h => by simp [brazierlaw11_Light.l0] at h, fun _ _ _ _ r h => by simp [brazierlaw11_Light.l1] at h, fun _ _ _ _ _ _ _ _ _ r h => by simp [brazierlaw11_Light.j3] at h, fun _ _ _ _ _ _ _ r h => by simp [brazierlaw11_Light.l2] at h, fun _ _ _ _ _ _ _ _ _ _ _ _ _ r h => by simp [brazierlaw11_Light.j5] at h, fun _ _ _ _ _ _ _ _ _ _ r h => by simp [brazierlaw11_Light.l3] at h⟩
  | k + 1 => by
    obtain ⟨ih0, ih1, ih2, ih3, ih4, ih5, ih6⟩ := brazierlaw11_Light.mono_l k
    refine ⟨?_, ?_, ?_, ?_, ?_, ?_, ?_⟩
    · intro y0 y1 y2
      unfold brazierlaw11_Light.j0
      repeat' first
      | (with_reducible exact ih0 _ _ _)
      | (with_reducible exact ih1 _ _ _ _ _)
      | (with_reducible exact ih2 _ _ _ _)
      | (with_reducible exact ih3 _ _ _ _ _ _ _ _ _)
      | (with_reducible exact ih4 _ _ _ _ _ _ _)
      | (with_reducible exact ih5 _ _ _ _ _ _ _ _ _ _ _ _ _)
      | (with_reducible exact ih6 _ _ _ _ _ _ _ _ _ _)
      | (with_reducible exact LeO.refl _)
      | (with_reducible exact LeO.none _)
      | (with_reducible refine LeO.ite ?_ ?_)
      | (with_reducible refine LeO.bind ?_ (fun _ => ?_))
      | exact ih0 _ _ _
      | exact ih1 _ _ _ _ _
      | exact ih2 _ _ _ _
      | exact ih3 _ _ _ _ _ _ _ _ _
      | exact ih4 _ _ _ _ _ _ _
      | exact ih5 _ _ _ _ _ _ _ _ _ _ _ _ _
      | exact ih6 _ _ _ _ _ _ _ _ _ _
      | exact LeO.none _
      | refine LeO.ite ?_ ?_
      | refine LeO.bind ?_ (fun _ => ?_)
    · intro y0 y1 y2 y3 y4
      unfold brazierlaw11_Light.l0
      repeat' first
      | (with_reducible exact ih0 _ _ _)
      | (with_reducible exact ih1 _ _ _ _ _)
      | (with_reducible exact ih2 _ _ _ _)
      | (with_reducible exact ih3 _ _ _ _ _ _ _ _ _)
      | (with_reducible exact ih4 _ _ _ _ _ _ _)
      | (with_reducible exact ih5 _ _ _ _ _ _ _ _ _ _ _ _ _)
      | (with_reducible exact ih6 _ _ _ _ _ _ _ _ _ _)
      | (with_reducible exact LeO.refl _)
      | (with_reducible exact LeO.none _)
      | (with_reducible refine LeO.ite ?_ ?_)
      | (with_reducible refine LeO.bind ?_ (fun _ => ?_))
      | exact ih0 _ _ _
      | exact ih1 _ _ _ _ _
      | exact ih2 _ _ _ _
      | exact ih3 _ _ _ _ _ _ _ _ _
      | exact ih4 _ _ _ _ _ _ _
      | exact ih5 _ _ _ _ _ _ _ _ _ _ _ _ _
      | exact ih6 _ _ _ _ _ _ _ _ _ _
      | exact LeO.none _
      | refine LeO.ite ?_ ?_
      | refine LeO.bind ?_ (fun _ => ?_)
    · intro y0 y1 y2 y3
      unfold brazierlaw11_Light.l1
      repeat' first
      | (with_reducible exact ih0 _ _ _)
      | (with_reducible exact ih1 _ _ _ _ _)
      | (with_reducible exact ih2 _ _ _ _)
      | (with_reducible exact ih3 _ _ _ _ _ _ _ _ _)
      | (with_reducible exact ih4 _ _ _ _ _ _ _)
      | (with_reducible exact ih5 _ _ _ _ _ _ _ _ _ _ _ _ _)
      | (with_reducible exact ih6 _ _ _ _ _ _ _ _ _ _)
      | (with_reducible exact LeO.refl _)
      | (with_reducible exact LeO.none _)
      | (with_reducible refine LeO.ite ?_ ?_)
      | (with_reducible refine LeO.bind ?_ (fun _ => ?_))
      | exact ih0 _ _ _
      | exact ih1 _ _ _ _ _
      | exact ih2 _ _ _ _
      | exact ih3 _ _ _ _ _ _ _ _ _
      | exact ih4 _ _ _ _ _ _ _
      | exact ih5 _ _ _ _ _ _ _ _ _ _ _ _ _
      | exact ih6 _ _ _ _ _ _ _ _ _ _
      | exact LeO.none _
      | refine LeO.ite ?_ ?_
      | refine LeO.bind ?_ (fun _ => ?_)
    · intro y0 y1 y2 y3 y4 y5 y6 y7 y8
      unfold brazierlaw11_Light.j3
      repeat' first
      | (with_reducible exact ih0 _ _ _)
      | (with_reducible exact ih1 _ _ _ _ _)
      | (with_reducible exact ih2 _ _ _ _)
      | (with_reducible exact ih3 _ _ _ _ _ _ _ _ _)
      | (with_reducible exact ih4 _ _ _ _ _ _ _)
      | (with_reducible exact ih5 _ _ _ _ _ _ _ _ _ _ _ _ _)
      | (with_reducible exact ih6 _ _ _ _ _ _ _ _ _ _)
      | (with_reducible exact LeO.refl _)
      | (with_reducible exact LeO.none _)
      | (with_reducible refine LeO.ite ?_ ?_)
      | (with_reducible refine LeO.bind ?_ (fun _ => ?_))
      | exact ih0 _ _ _
      | exact ih1 _ _ _ _ _
      | exact ih2 _ _ _ _
      | exact ih3 _ _ _ _ _ _ _ _ _
      | exact ih4 _ _ _ _ _ _ _
      | exact ih5 _ _ _ _ _ _ _ _ _ _ _ _ _
      | exact ih6 _ _ _ _ _ _ _ _ _ _
      | exact LeO.none _
      | refine LeO.ite ?_ ?_
      | refine LeO.bind ?_ (fun _ => ?_)
    · intro y0 y1 y2 y3 y4 y5 y6
      unfold brazierlaw11_Light.l2
      repeat' first
      | (with_reducible exact ih0 _ _ _)
      | (with_reducible exact ih1 _ _ _ _ _)
      | (with_reducible exact ih2 _ _ _ _)
      | (with_reducible exact ih3 _ _ _ _ _ _ _ _ _)
      | (with_reducible exact ih4 _ _ _ _ _ _ _)
      | (with_reducible exact ih5 _ _ _ _ _ _ _ _ _ _ _ _ _)
      | (with_reducible exact ih6 _ _ _ _ _ _ _ _ _ _)
      | (with_reducible exact LeO.refl _)
      | (with_reducible exact LeO.none _)
      | (with_reducible refine LeO.ite ?_ ?_)
      | (with_reducible refine LeO.bind ?_ (fun _ => ?_))
      | exact ih0 _ _ _
      | exact ih1 _ _ _ _ _
      | exact ih2 _ _ _ _
      | exact ih3 _ _ _ _ _ _ _ _ _
      | exact ih4 _ _ _ _ _ _ _
      | exact ih5 _ _ _ _ _ _ _ _ _ _ _ _ _
      | exact ih6 _ _ _ _ _ _ _ _ _ _
      | exact LeO.none _
      | refine LeO.ite ?_ ?_
      | refine LeO.bind ?_ (fun _ => ?_)
    · intro y0 y1 y2 y3 y4 y5 y6 y7 y8 y9 y10 y11 y12
      unfold brazierlaw11_Light.j5
      repeat' first
      | (with_reducible exact ih0 _ _ _)
      | (with_reducible exact ih1 _ _ _ _ _)
      | (with_reducible exact ih2 _ _ _ _)
      | (with_reducible exact ih3 _ _ _ _ _ _ _ _ _)
      | (with_reducible exact ih4 _ _ _ _ _ _ _)
      | (with_reducible exact ih5 _ _ _ _ _ _ _ _ _ _ _ _ _)
      | (with_reducible exact ih6 _ _ _ _ _ _ _ _ _ _)
      | (with_reducible exact LeO.refl _)
      | (with_reducible exact LeO.none _)
      | (with_reducible refine LeO.ite ?_ ?_)
      | (with_reducible refine LeO.bind ?_ (fun _ => ?_))
      | exact ih0 _ _ _
      | exact ih1 _ _ _ _ _
      | exact ih2 _ _ _ _
      | exact ih3 _ _ _ _ _ _ _ _ _
      | exact ih4 _ _ _ _ _ _ _
      | exact ih5 _ _ _ _ _ _ _ _ _ _ _ _ _
      | exact ih6 _ _ _ _ _ _ _ _ _ _
      | exact LeO.none _
      | refine LeO.ite ?_ ?_
      | refine LeO.bind ?_ (fun _ => ?_)
    · intro y0 y1 y2 y3 y4 y5 y6 y7 y8 y9
      unfold brazierlaw11_Light.l3
      repeat' first
      | (with_reducible exact ih0 _ _ _)
      | (with_reducible exact ih1 _ _ _ _ _)
      | (with_reducible exact ih2 _ _ _ _)
      | (with_reducible exact ih3 _ _ _ _ _ _ _ _ _)
      | (with_reducible exact ih4 _ _ _ _ _ _ _)
      | (with_reducible exact ih5 _ _ _ _ _ _ _ _ _ _ _ _ _)
      | (with_reducible exact ih6 _ _ _ _ _ _ _ _ _ _)
      | (with_reducible exact LeO.refl _)
      | (with_reducible exact LeO.none _)
      | (with_reducible refine LeO.ite ?_ ?_)
      | (with_reducible refine LeO.bind ?_ (fun _ => ?_))
      | exact ih0 _ _ _
      | exact ih1 _ _ _ _ _
      | exact ih2 _ _ _ _
      | exact ih3 _ _ _ _ _ _ _ _ _
      | exact ih4 _ _ _ _ _ _ _
      | exact ih5 _ _ _ _ _ _ _ _ _ _ _ _ _
      | exact ih6 _ _ _ _ _ _ _ _ _ _
      | exact LeO.none _
      | refine LeO.ite ?_ ?_
      | refine LeO.bind ?_ (fun _ => ?_)
theorem brazierlaw11_Light.mono : ∀ a0 a1 k, LeO (brazierlaw11_Light.f k a0 a1) (brazierlaw11_Light.f (k + 1) a0 a1) := by
  intro a0 a1 k
  obtain ⟨ih0, ih1, ih2, ih3, ih4, ih5, ih6⟩ := brazierlaw11_Light.mono_l k
  unfold brazierlaw11_Light.f
  repeat' first
      | (with_reducible exact ih0 _ _ _)
      | (with_reducible exact ih1 _ _ _ _ _)
      | (with_reducible exact ih2 _ _ _ _)
      | (with_reducible exact ih3 _ _ _ _ _ _ _ _ _)
      | (with_reducible exact ih4 _ _ _ _ _ _ _)
      | (with_reducible exact ih5 _ _ _ _ _ _ _ _ _ _ _ _ _)
      | (with_reducible exact ih6 _ _ _ _ _ _ _ _ _ _)
      | (with_reducible exact LeO.refl _)
      | (with_reducible exact LeO.none _)
      | (with_reducible refine LeO.ite ?_ ?_)
      | (with_reducible refine LeO.bind ?_ (fun _ => ?_))
      | exact ih0 _ _ _
      | exact ih1 _ _ _ _ _
      | exact ih2 _ _ _ _
      | exact ih3 _ _ _ _ _ _ _ _ _
      | exact ih4 _ _ _ _ _ _ _
      | exact ih5 _ _ _ _ _ _ _ _ _ _ _ _ _
      | exact ih6 _ _ _ _ _ _ _ _ _ _
      | exact LeO.none _
      | refine LeO.ite ?_ ?_
      | refine LeO.bind ?_ (fun _ => ?_)
set_option maxHeartbeats 60000000 in
set_option maxRecDepth 100000 in
theorem brazierlaw11_Light.calls (k : Nat) (A0_0 : Option Addr) (c0_0 : Nat) (l0_0 : List (S57)) (A0_1 : Option Addr) (c0_1 : Nat) (l0_1 : List (S47)) (r : Bool) (w : World) (hr0_0 : Kd.C k57 w A0_0 l0_0.length l0_0) (hc0_0 : l0_0.length ≤ c0_0) (hr0_1 : Kd.C k47 w A0_1 l0_1.length l0_1) (hc0_1 : l0_1.length ≤ c0_1) (h : brazierlaw11_Light.f k l0_0 l0_1 = some r) :
    Calls Try.prog 16 #[.agg #[.slice A0_0 l0_0.length c0_0, .slice A0_1 l0_1.length c0_1]] w fun e w' => e = .returned (.bool r) ∧ Below w.heap.size w w' := by
  have hu25 := Try.underlying25
  have hu57 := Try.underlying57
  have hu47 := Try.underlying47
  have hu41 := Try.underlying41
  have hu44 := Try.underlying44
  have HR0_0 := Aside0.mk hr0_0
  have HC0_0 := Aside0.mk hc0_0
  clear hr0_0 hc0_0
  have HR0_1 := Aside0.mk hr0_1
  have HC0_1 := Aside0.mk hc0_1
  clear hr0_1 hc0_1
  have HB := Aside0.mk (Below.refl w.heap.size w)
  have H : (if (l0_1.length : Int) > 8 then (brazierlaw11_Light.j0 k true l0_0 l0_1) else (brazierlaw11_Light.j0 k (decide ((l0_0.length : Int) > 70)) l0_0 l0_1)) = some r := h
  clear h
  have HC2 := Aside0.mk H
  clear H
  go_enter Try.func16, Try.ntmps16
  go_upto_region 1 with (first | ((with_reducible refine gate_dst (N := 1) rfl ?_); (try (refine gate_guard (by rfl) ?_; dsimp only)); refine box_event ?hg (N := 1) ?hd (cs := #[.slice A0_0 l0_0.length c0_0, .slice A0_1 l0_1.length c0_1]) (t := 25) ?hr ?_; (case hd => rfl); (case hg => rfl); (case hr => first | (go_simp; done) | (go_simp; rfl)); intro gb159 hg w3 hbox hb; have n0_ := Aside0.mk (below_step (by repeat (first | (with_reducible first | exact HB.out | apply below_alloc | apply pw_below_drewN | apply below_drew1) | exact HB.out)) hb); have n1_ := Aside0.mk (hbox); have n2_ := Aside0.mk ((by rw [hg]; exact (below_size (by repeat (first | (with_reducible first | exact HB.out | apply below_alloc | apply pw_below_drewN | apply below_drew1) | exact HB.out))) : w.heap.size ≤ gb159)); have n3_ := Aside0.mk ((by rw [hg]; exact (below_size (by repeat (first | (with_reducible first | exact HB.out | apply below_alloc | apply pw_below_drewN | apply below_drew1) | exact HB.out))) : w.heap.size ≤ gb159)); clear HB; have HB := n0_; have BK159 := n1_; have GW159 := n2_; have GE159 := n3_; clear n0_ n1_ n2_ n3_; clear hb hbox hg))
  (try simp only [Act.put, List.setIfInBounds_toArray, List.set_cons_zero, List.set_cons_succ])
  go_cut [21] (fun v21 wc => ∃ (kq : Nat) (x21_1 : Bool), v21 = .bool x21_1 ∧ Aside0 (brazierlaw11_Light.j0 kq x21_1 l0_0 l0_1 = some r) ∧ Aside0 (kq ≤ k) ∧ Aside0 (wc.heap[gb159]? = some (.cells #[(.slice A0_0 l0_0.length c0_0), (.slice A0_1 l0_1.length c0_1)] 25 (0, 0))) ∧ Aside0 (Below w.heap.size w wc))
  case first =>
    have H := HC2.out
    clear HC2
    by_cases c4 : (l0_1.length : Int) > 8
    · rw [if_pos c4] at H
      have c4b0 : decide (8 < (l0_1.length : Int)) = true := decide_eq_true c4
      have c4b1 : decide (8 < l0_1.length) = true := decide_eq_true (by omega)
      clear c4
      (first | rw [c4b0] | (simp only [i64_w, i32_w]; rw [c4b0]) | skip)
      have H' := Aside0.mk H
      clear H
      have hcz5_0 : w3.cell? ⟨gb159, 0, none⟩ = some (.slice A0_0 l0_0.length c0_0) := (blk_cell BK159.out 0).trans rfl
      have hcz5_1 : w3.cell? ⟨gb159, 1, none⟩ = some (.slice A0_1 l0_1.length c0_1) := (blk_cell BK159.out 1).trans rfl
      have hfz5_0 := blk_frozen BK159.out 0
      have hfz5_1 := blk_frozen BK159.out 1
      go_wp2
      go_meet
      case rel => exact ⟨_, (true), (by first | rfl | (simp; done) | (simp [*]; done)), H', ⟨by first | omega | exact Nat.le_refl _⟩, ⟨by (with_reducible repeat (first | refine blk_drewN ?_ _ | refine blk_drew ?_ | refine blk_alloc ?_ _)); exact BK159.out⟩, ⟨by repeat (first | (with_reducible first | exact HB.out | apply below_alloc | apply pw_below_drewN | apply below_drew1 | refine below_set ?_ GE159.out) | exact HB.out)⟩⟩
    · rw [if_neg c4] at H
      have c4b0 : decide (8 < (l0_1.length : Int)) = false := decide_eq_false c4
      have c4b1 : decide (8 < l0_1.length) = false := decide_eq_false (by omega)
      clear c4
      (first | rw [c4b0] | (simp only [i64_w, i32_w]; rw [c4b0]) | skip)
      have H' := Aside0.mk H
      clear H
      have hcz6_0 : w3.cell? ⟨gb159, 0, none⟩ = some (.slice A0_0 l0_0.length c0_0) := (blk_cell BK159.out 0).trans rfl
      have hcz6_1 : w3.cell? ⟨gb159, 1, none⟩ = some (.slice A0_1 l0_1.length c0_1) := (blk_cell BK159.out 1).trans rfl
      have hfz6_0 := blk_frozen BK159.out 0
      have hfz6_1 := blk_frozen BK159.out 1
      go_wp2
      go_meet
      case rel => exact ⟨_, (decide ((l0_0.length : Int) > 70)), (by first | rfl | (simp; done) | (simp [*]; done)), H', ⟨by first | omega | exact Nat.le_refl _⟩, ⟨by (with_reducible repeat (first | refine blk_drewN ?_ _ | refine blk_drew ?_ | refine blk_alloc ?_ _)); exact BK159.out⟩, ⟨by repeat (first | (with_reducible first | exact HB.out | apply below_alloc | apply pw_below_drewN | apply below_drew1 | refine below_set ?_ GE159.out) | exact HB.out)⟩⟩
  case rest =>
    clear HC2
    try clear c1
    try clear p2
    try clear c4
    try clear c4b0
    try clear c4b1
    try clear hcz5_0
    try clear hcz5_1
    try clear hcz6_0
    try clear hcz6_1
    try clear hfz5_0
    try clear hfz5_1
    try clear hfz6_0
    try clear hfz6_1
    obtain ⟨kq, x21_1, rfl, HA, HJ1, BK159, HB⟩ := hcut
    cases kq with
    | zero => exact absurd HA.out (by simp [brazierlaw11_Light.j0])
    | succ kj1 =>
      have H := HA.out
      clear HA
      simp only [brazierlaw11_Light.j0] at H
      by_cases c7 : x21_1 = true
      · subst c7
        have H1 : (some false) = some r := by rw [if_pos rfl] at H; exact H
        clear H
        have H := H1
        clear H1
        obtain rfl := Option.some.inj H
        go_wp2
        go_ret
        exact ⟨by first | rfl | (simp [errW_none, errW_some] <;> rfl) | (simp [*, errW_none, errW_some] <;> rfl), by repeat (first | (with_reducible first | exact HB.out | apply below_alloc | apply pw_below_drewN | apply below_drew1 | refine below_set ?_ GE159.out) | exact HB.out)⟩
      · replace c7 := Bool.eq_false_iff.mpr c7
        subst c7
        have H1 : (brazierlaw11_Light.l0 kj1 l0_0 (l0_0.length : Int) 0 l0_0 l0_1) = some r := by rw [if_neg (show ¬ (false = true) by decide)] at H; exact H
        clear H
        have H := H1
        clear H1
        have H' := Aside0.mk H
        clear H
        have hcz8_0 : wc.cell? ⟨gb159, 0, none⟩ = some (.slice A0_0 l0_0.length c0_0) := (blk_cell BK159.out 0).trans rfl
        have hcz8_1 : wc.cell? ⟨gb159, 1, none⟩ = some (.slice A0_1 l0_1.length c0_1) := (blk_cell BK159.out 1).trans rfl
        have hfz8_0 := blk_frozen BK159.out 0
        have hfz8_1 := blk_frozen BK159.out 1
        go_wp2
        go_loopg [25] kj1 (fun kq v25 w' => ∃ (x25_2 : Int), v25 = .int .i64 x25_2 ∧ Aside0 (brazierlaw11_Light.l0 kq l0_0 (l0_0.length : Int) x25_2 l0_0 l0_1 = some r) ∧ Aside0 (kq ≤ kj1) ∧ Aside0 (w'.heap[gb159]? = some (.cells #[(.slice A0_0 l0_0.length c0_0), (.slice A0_1 l0_1.length c0_1)] 25 (0, 0))) ∧ Aside0 (Below w.heap.size w w'))
        case atStart => exact ⟨(0), (by first | rfl | (simp; done) | (simp [*]; done)), H', ⟨Nat.le_refl _⟩, ⟨by (with_reducible repeat (first | refine blk_drewN ?_ _ | refine blk_drew ?_ | refine blk_alloc ?_ _)); exact BK159.out⟩, ⟨by repeat (first | (with_reducible first | exact HB.out | apply below_alloc | apply pw_below_drewN | apply below_drew1 | refine below_set ?_ GE159.out) | exact HB.out)⟩⟩
        case round =>
          clear H'
          try clear c1
          try clear p2
          try clear c4
          try clear c4b0
          try clear c4b1
          try clear c7
          try clear hcz5_0
          try clear hcz5_1
          try clear hcz6_0
          try clear hcz6_1
          try clear hcz8_0
          try clear hcz8_1
          try clear hfz5_0
          try clear hfz5_1
          try clear hfz6_0
          try clear hfz6_1
          try clear hfz8_0
          try clear hfz8_1
          try clear p2
          obtain ⟨x25_2, rfl, HA, HK2, BK159, HB⟩ := hrel
          cases gk with
          | zero => exact absurd HA.out (by simp [brazierlaw11_Light.l0])
          | succ k2 =>
            have H := HA.out
            clear HA
            simp only [brazierlaw11_Light.l0] at H
            by_cases c9 : x25_2 < (l0_0.length : Int)
            · rw [if_pos c9] at H
              have c9b0 : decide (x25_2 < (l0_0.length : Int)) = true := decide_eq_true c9
              clear c9
              by_cases c10 : 0 ≤ x25_2
              · rw [if_pos c10] at H
                have c10b0 : decide (0 ≤ x25_2) = true := decide_eq_true c10
                clear c10
                by_cases c11 : x25_2 < (l0_0.length : Int)
                · rw [if_pos c11] at H
                  have c11b0 : decide (x25_2 < (l0_0.length : Int)) = true := decide_eq_true c11
                  clear c11
                  by_cases c12 : (((rd_T57 l0_0 x25_2).f0).size : Int) > 100
                  · rw [if_pos c12] at H
                    have c12b0 : decide (100 < (((rd_T57 l0_0 x25_2).f0).size : Int)) = true := decide_eq_true c12
                    have c12b1 : decide (100 < ((rd_T57 l0_0 x25_2).f0).size) = true := decide_eq_true (by omega)
                    clear c12
                    obtain rfl := Option.some.inj H
                    have p160 : 0 ≤ (x25_2 : Int) := of_decide_eq_true (by first | (with_reducible assumption) | assumption)
                    have q160 : x25_2 < (l0_0.length : Int) := of_decide_eq_true (by first | (with_reducible assumption) | assumption)
                    obtain ⟨ad160, e160, hx160_0, hx160_1⟩ := at_T57 HR0_0.out x25_2 p160 q160
                    cases e160
                    replace hx160_0 := (HB.out.cell (World.block_lt_of_cell? w _ hx160_0)).trans hx160_0
                    replace hx160_1 := (HB.out.cell (World.block_lt_of_cell? w _ hx160_1)).trans hx160_1
                    replace p160 := eq_true p160
                    replace q160 := eq_true q160
                    go_wp2_with (first | ((with_reducible refine gate_dst (N := 4) rfl ?_); (try (refine gate_guard (by rfl) ?_; dsimp only)); refine box_event ?hg (N := 4) ?hd (cs := #[.string (⟨#[]⟩ : ByteArray), .int .i64 0]) (t := 57) ?hr ?_; (case hd => rfl); (case hg => rfl); (case hr => first | (go_simp; done) | (go_simp; rfl)); intro gb161 hg w13 hbox hb; have n0_ := Aside0.mk (blk_below (g := gb159) (o := .cells #[.slice (some ad160) l0_0.length c0_0, .slice A0_1 l0_1.length c0_1] 25 (0, 0)) (by (with_reducible repeat (first | refine blk_drewN ?_ _ | refine blk_drew ?_ | refine blk_alloc ?_ _)); exact BK159.out) hb); have n1_ := Aside0.mk (below_step (by repeat (first | (with_reducible first | exact HB.out | apply below_alloc | apply pw_below_drewN | apply below_drew1 | refine below_set ?_ GE159.out) | exact HB.out)) hb); have n2_ := Aside0.mk (hbox); have n3_ := Aside0.mk ((by rw [hg]; exact (below_size (by repeat (first | (with_reducible first | exact HB.out | apply below_alloc | apply pw_below_drewN | apply below_drew1 | refine below_set ?_ GE159.out) | exact HB.out))) : w.heap.size ≤ gb161)); have n4_ := Aside0.mk ((by rw [hg]; exact (below_size (by repeat (first | (with_reducible first | exact HB.out | apply below_alloc | apply pw_below_drewN | apply below_drew1 | refine below_set ?_ GE159.out) | exact HB.out))) : w.heap.size ≤ gb161)); have n5_ := Aside0.mk ((by rw [hg]; exact Nat.ne_of_lt (blk_lt (g := gb159) (o := .cells #[.slice (some ad160) l0_0.length c0_0, .slice A0_1 l0_1.length c0_1] 25 (0, 0)) (by (with_reducible repeat (first | refine blk_drewN ?_ _ | refine blk_drew ?_ | refine blk_alloc ?_ _)); exact BK159.out)) : gb159 ≠ gb161)); have n6_ := Aside0.mk ((by rw [hg]; exact Nat.ne_of_gt (blk_lt (g := gb159) (o := .cells #[.slice (some ad160) l0_0.length c0_0, .slice A0_1 l0_1.length c0_1] 25 (0, 0)) (by (with_reducible repeat (first | refine blk_drewN ?_ _ | refine blk_drew ?_ | refine blk_alloc ?_ _)); exact BK159.out)) : gb161 ≠ gb159)); clear BK159; clear HB; have BK159 := n0_; have HB := n1_; have BK161 := n2_; have GW161 := n3_; have GE161 := n4_; have NB159_161 := n5_; have NB161_159 := n6_; clear n0_ n1_ n2_ n3_ n4_ n5_ n6_; clear hb hbox hg; have hnb14 := NB161_159.out; have hnc14 := NB159_161.out; have hcz15_0 : w13.cell? ⟨gb161, 0, none⟩ = some (.string (⟨#[]⟩ : ByteArray)) := (blk_cell BK161.out 0).trans rfl; have hcz15_1 : w13.cell? ⟨gb161, 1, none⟩ = some (.int .i64 0) := (blk_cell BK161.out 1).trans rfl; have hfz15_0 := blk_frozen BK161.out 0; have hfz15_1 := blk_frozen BK161.out 1))
                    go_ret
                    exact ⟨by first | rfl | (simp [errW_none, errW_some] <;> rfl) | (simp [*, errW_none, errW_some] <;> rfl), by repeat (first | (with_reducible first | exact HB.out | apply below_alloc | apply pw_below_drewN | apply below_drew1 | refine below_set ?_ GE159.out | refine below_set ?_ GE161.out) | exact HB.out)⟩
                  · rw [if_neg c12] at H
                    have c12b0 : decide (100 < (((rd_T57 l0_0 x25_2).f0).size : Int)) = false := decide_eq_false c12
                    have c12b1 : decide (100 < ((rd_T57 l0_0 x25_2).f0).size) = false := decide_eq_false (by omega)
                    clear c12
                    have H' := Aside0.mk H
                    clear H
                    have p160 : 0 ≤ (x25_2 : Int) := of_decide_eq_true (by first | (with_reducible assumption) | assumption)
                    have q160 : x25_2 < (l0_0.length : Int) := of_decide_eq_true (by first | (with_reducible assumption) | assumption)
                    obtain ⟨ad160, e160, hx160_0, hx160_1⟩ := at_T57 HR0_0.out x25_2 p160 q160
                    cases e160
                    replace hx160_0 := (HB.out.cell (World.block_lt_of_cell? w _ hx160_0)).trans hx160_0
                    replace hx160_1 := (HB.out.cell (World.block_lt_of_cell? w _ hx160_1)).trans hx160_1
                    replace p160 := eq_true p160
                    replace q160 := eq_true q160
                    go_wp2_with (first | ((with_reducible refine gate_dst (N := 4) rfl ?_); (try (refine gate_guard (by rfl) ?_; dsimp only)); refine box_event ?hg (N := 4) ?hd (cs := #[.string (⟨#[]⟩ : ByteArray), .int .i64 0]) (t := 57) ?hr ?_; (case hd => rfl); (case hg => rfl); (case hr => first | (go_simp; done) | (go_simp; rfl)); intro gb161 hg w16 hbox hb; have n0_ := Aside0.mk (blk_below (g := gb159) (o := .cells #[.slice (some ad160) l0_0.length c0_0, .slice A0_1 l0_1.length c0_1] 25 (0, 0)) (by (with_reducible repeat (first | refine blk_drewN ?_ _ | refine blk_drew ?_ | refine blk_alloc ?_ _)); exact BK159.out) hb); have n1_ := Aside0.mk (below_step (by repeat (first | (with_reducible first | exact HB.out | apply below_alloc | apply pw_below_drewN | apply below_drew1 | refine below_set ?_ GE159.out) | exact HB.out)) hb); have n2_ := Aside0.mk (hbox); have n3_ := Aside0.mk ((by rw [hg]; exact (below_size (by repeat (first | (with_reducible first | exact HB.out | apply below_alloc | apply pw_below_drewN | apply below_drew1 | refine below_set ?_ GE159.out) | exact HB.out))) : w.heap.size ≤ gb161)); have n4_ := Aside0.mk ((by rw [hg]; exact (below_size (by repeat (first | (with_reducible first | exact HB.out | apply below_alloc | apply pw_below_drewN | apply below_drew1 | refine below_set ?_ GE159.out) | exact HB.out))) : w.heap.size ≤ gb161)); have n5_ := Aside0.mk ((by rw [hg]; exact Nat.ne_of_lt (blk_lt (g := gb159) (o := .cells #[.slice (some ad160) l0_0.length c0_0, .slice A0_1 l0_1.length c0_1] 25 (0, 0)) (by (with_reducible repeat (first | refine blk_drewN ?_ _ | refine blk_drew ?_ | refine blk_alloc ?_ _)); exact BK159.out)) : gb159 ≠ gb161)); have n6_ := Aside0.mk ((by rw [hg]; exact Nat.ne_of_gt (blk_lt (g := gb159) (o := .cells #[.slice (some ad160) l0_0.length c0_0, .slice A0_1 l0_1.length c0_1] 25 (0, 0)) (by (with_reducible repeat (first | refine blk_drewN ?_ _ | refine blk_drew ?_ | refine blk_alloc ?_ _)); exact BK159.out)) : gb161 ≠ gb159)); clear BK159; clear HB; have BK159 := n0_; have HB := n1_; have BK161 := n2_; have GW161 := n3_; have GE161 := n4_; have NB159_161 := n5_; have NB161_159 := n6_; clear n0_ n1_ n2_ n3_ n4_ n5_ n6_; clear hb hbox hg; have hnb17 := NB161_159.out; have hnc17 := NB159_161.out; have hcz18_0 : w16.cell? ⟨gb161, 0, none⟩ = some (.string (⟨#[]⟩ : ByteArray)) := (blk_cell BK161.out 0).trans rfl; have hcz18_1 : w16.cell? ⟨gb161, 1, none⟩ = some (.int .i64 0) := (blk_cell BK161.out 1).trans rfl; have hfz18_0 := blk_frozen BK161.out 0; have hfz18_1 := blk_frozen BK161.out 1))
                    go_roundg k2
                    case measure => have := HJ1.out; have := HK2.out; omega
                    case rel => exact ⟨(wrap64 (x25_2 + 1)), (by first | rfl | (simp; done) | (simp [*]; done)), H', ⟨by have := HJ1.out; have := HK2.out; omega⟩, ⟨by (with_reducible repeat (first | refine blk_drewN ?_ _ | refine blk_drew ?_ | refine blk_alloc ?_ _)); refine blk_far ?_ NB159_161.out _; (with_reducible repeat (first | refine blk_drewN ?_ _ | refine blk_drew ?_ | refine blk_alloc ?_ _)); refine blk_far ?_ NB159_161.out _; (with_reducible repeat (first | refine blk_drewN ?_ _ | refine blk_drew ?_ | refine blk_alloc ?_ _)); exact BK159.out⟩, ⟨by repeat (first | (with_reducible first | exact HB.out | apply below_alloc | apply pw_below_drewN | apply below_drew1 | refine below_set ?_ GE159.out | refine below_set ?_ GE161.out) | exact HB.out)⟩⟩
                · rw [if_neg c11] at H
                  exact absurd H (by simp)
              · rw [if_neg c10] at H
                exact absurd H (by simp)
            · rw [if_neg c9] at H
              have c9b0 : decide (x25_2 < (l0_0.length : Int)) = false := decide_eq_false c9
              clear c9
              have H' := Aside0.mk H
              clear H
              have hcz19_0 : wr.cell? ⟨gb159, 0, none⟩ = some (.slice A0_0 l0_0.length c0_0) := (blk_cell BK159.out 0).trans rfl
              have hcz19_1 : wr.cell? ⟨gb159, 1, none⟩ = some (.slice A0_1 l0_1.length c0_1) := (blk_cell BK159.out 1).trans rfl
              have hfz19_0 := blk_frozen BK159.out 0
              have hfz19_1 := blk_frozen BK159.out 1
              go_wp2
              go_loopg [5, 37] k2 (fun kq v5 v37 w' => ∃ (x5_3 : Int) (x37_3 : Int), v5 = .int .i64 x5_3 ∧ v37 = .int .i64 x37_3 ∧ Aside0 (brazierlaw11_Light.l1 kq x5_3 l0_1 (l0_1.length : Int) x37_3 = some r) ∧ Aside0 (kq ≤ k2) ∧ Aside0 (w'.heap[gb159]? = some (.cells #[(.slice A0_0 l0_0.length c0_0), (.slice A0_1 l0_1.length c0_1)] 25 (0, 0))) ∧ Aside0 (Below w.heap.size w w'))
              case atStart => exact ⟨(0), (0), (by first | rfl | (simp; done) | (simp [*]; done)), (by first | rfl | (simp; done) | (simp [*]; done)), H', ⟨Nat.le_refl _⟩, ⟨by (with_reducible repeat (first | refine blk_drewN ?_ _ | refine blk_drew ?_ | refine blk_alloc ?_ _)); exact BK159.out⟩, ⟨by repeat (first | (with_reducible first | exact HB.out | apply below_alloc | apply pw_below_drewN | apply below_drew1 | refine below_set ?_ GE159.out) | exact HB.out)⟩⟩
              case round =>
                clear H'
                try clear c1
                try clear p1
                try clear q1
                try clear hx1
                try clear p2
                try clear c4
                try clear c4b0
                try clear c4b1
                try clear p6
                try clear c7
                try clear c9
                try clear c9b0
                try clear c10
                try clear c10b0
                try clear c11
                try clear c11b0
                try clear c12
                try clear c12b0
                try clear c12b1
                try clear c14
                try clear c16
                try clear p16
                try clear q16
                try clear hx16
                try clear c17
                try clear hcz15_0
                try clear hcz15_1
                try clear hcz18_0
                try clear hcz18_1
                try clear hcz19_0
                try clear hcz19_1
                try clear hcz5_0
                try clear hcz5_1
                try clear hcz6_0
                try clear hcz6_1
                try clear hcz8_0
                try clear hcz8_1
                try clear hfz15_0
                try clear hfz15_1
                try clear hfz18_0
                try clear hfz18_1
                try clear hfz19_0
                try clear hfz19_1
                try clear hfz5_0
                try clear hfz5_1
                try clear hfz6_0
                try clear hfz6_1
                try clear hfz8_0
                try clear hfz8_1
                try clear hx160_0
                try clear hx160_1
                try clear p160
                try clear p2
                try clear q160
                obtain ⟨x5_3, x37_3, rfl, rfl, HA, HK3, BK159, HB⟩ := hrel
                cases gk with
                | zero => exact absurd HA.out (by simp [brazierlaw11_Light.l1])
                | succ k3 =>
                  have H := HA.out
                  clear HA
                  simp only [brazierlaw11_Light.l1] at H
                  by_cases c20 : x37_3 < (l0_1.length : Int)
                  · rw [if_pos c20] at H
                    have c20b0 : decide (x37_3 < (l0_1.length : Int)) = true := decide_eq_true c20
                    clear c20
                    by_cases c21 : 0 ≤ x37_3
                    · rw [if_pos c21] at H
                      have c21b0 : decide (0 ≤ x37_3) = true := decide_eq_true c21
                      clear c21
                      by_cases c22 : x37_3 < (l0_1.length : Int)
                      · rw [if_pos c22] at H
                        have c22b0 : decide (x37_3 < (l0_1.length : Int)) = true := decide_eq_true c22
                        clear c22
                        have HC23 := Aside0.mk H
                        clear H
                        have p162 : 0 ≤ (x37_3 : Int) := of_decide_eq_true (by first | (with_reducible assumption) | assumption)
                        have q162 : x37_3 < (l0_1.length : Int) := of_decide_eq_true (by first | (with_reducible assumption) | assumption)
                        obtain ⟨ad162, A162_3, c162_3, e162, hx162_0, hx162_1, hx162_2, hx162_3, hl162_3, hi162_3⟩ := at_T47 HR0_1.out x37_3 p162 q162
                        cases e162
                        replace hx162_0 := (HB.out.cell (World.block_lt_of_cell? w _ hx162_0)).trans hx162_0
                        replace hx162_1 := (HB.out.cell (World.block_lt_of_cell? w _ hx162_1)).trans hx162_1
                        replace hx162_2 := (HB.out.cell (World.block_lt_of_cell? w _ hx162_2)).trans hx162_2
                        replace hx162_3 := (HB.out.cell (World.block_lt_of_cell? w _ hx162_3)).trans hx162_3
                        have HR162_3 := Aside0.mk hi162_3
                        have HC162_3 := Aside0.mk hl162_3
                        clear hi162_3 hl162_3
                        replace p162 := eq_true p162
                        replace q162 := eq_true q162
                        go_upto_region 13 with (first | ((with_reducible refine gate_dst (N := 7) rfl ?_); (try (refine gate_guard (by rfl) ?_; dsimp only)); refine box_event ?hg (N := 7) ?hd (cs := #[.string (⟨#[]⟩ : ByteArray), .int .i64 0, .int .i64 0, .slice none 0 0]) (t := 47) ?hr ?_; (case hd => rfl); (case hg => rfl); (case hr => first | (go_simp; done) | (go_simp; rfl)); intro gb163 hg w24 hbox hb; have n0_ := Aside0.mk (blk_below (g := gb159) (o := .cells #[.slice A0_0 l0_0.length c0_0, .slice (some ad162) l0_1.length c0_1] 25 (0, 0)) (by (with_reducible repeat (first | refine blk_drewN ?_ _ | refine blk_drew ?_ | refine blk_alloc ?_ _)); exact BK159.out) hb); have n1_ := Aside0.mk (below_step (by repeat (first | (with_reducible first | exact HB.out | apply below_alloc | apply pw_below_drewN | apply below_drew1 | refine below_set ?_ GE159.out) | exact HB.out)) hb); have n2_ := Aside0.mk (hbox); have n3_ := Aside0.mk ((by rw [hg]; exact (below_size (by repeat (first | (with_reducible first | exact HB.out | apply below_alloc | apply pw_below_drewN | apply below_drew1 | refine below_set ?_ GE159.out) | exact HB.out))) : w.heap.size ≤ gb163)); have n4_ := Aside0.mk ((by rw [hg]; exact (below_size (by repeat (first | (with_reducible first | exact HB.out | apply below_alloc | apply pw_below_drewN | apply below_drew1 | refine below_set ?_ GE159.out) | exact HB.out))) : w.heap.size ≤ gb163)); have n5_ := Aside0.mk ((by rw [hg]; exact Nat.ne_of_lt (blk_lt (g := gb159) (o := .cells #[.slice A0_0 l0_0.length c0_0, .slice (some ad162) l0_1.length c0_1] 25 (0, 0)) (by (with_reducible repeat (first | refine blk_drewN ?_ _ | refine blk_drew ?_ | refine blk_alloc ?_ _)); exact BK159.out)) : gb159 ≠ gb163)); have n6_ := Aside0.mk ((by rw [hg]; exact Nat.ne_of_gt (blk_lt (g := gb159) (o := .cells #[.slice A0_0 l0_0.length c0_0, .slice (some ad162) l0_1.length c0_1] 25 (0, 0)) (by (with_reducible repeat (first | refine blk_drewN ?_ _ | refine blk_drew ?_ | refine blk_alloc ?_ _)); exact BK159.out)) : gb163 ≠ gb159)); clear BK159; clear HB; have BK159 := n0_; have HB := n1_; have BK163 := n2_; have GW163 := n3_; have GE163 := n4_; have NB159_163 := n5_; have NB163_159 := n6_; clear n0_ n1_ n2_ n3_ n4_ n5_ n6_; clear hb hbox hg; have hnb25 := NB163_159.out; have hnc25 := NB159_163.out; have hcz26_0 : w24.cell? ⟨gb163, 0, none⟩ = some (.string (⟨#[]⟩ : ByteArray)) := (blk_cell BK163.out 0).trans rfl; have hcz26_1 : w24.cell? ⟨gb163, 1, none⟩ = some (.int .i64 0) := (blk_cell BK163.out 1).trans rfl; have hcz26_2 : w24.cell? ⟨gb163, 2, none⟩ = some (.int .i64 0) := (blk_cell BK163.out 2).trans rfl; have hcz26_3 : w24.cell? ⟨gb163, 3, none⟩ = some (.slice none 0 0) := (blk_cell BK163.out 3).trans rfl; have hfz26_0 := blk_frozen BK163.out 0; have hfz26_1 := blk_frozen BK163.out 1; have hfz26_2 := blk_frozen BK163.out 2; have hfz26_3 := blk_frozen BK163.out 3))
                        (try simp only [Act.put, List.setIfInBounds_toArray, List.set_cons_zero, List.set_cons_succ])
                        go_cut [50] (fun v50 wc => ∃ (kq : Nat) (x50_22 : Bool), v50 = .bool x50_22 ∧ Aside0 (brazierlaw11_Light.j3 kq x5_3 l0_1 (l0_1.length : Int) x37_3 x50_22 ((rd_T47 l0_1 x37_3).f0) ((rd_T47 l0_1 x37_3).f1) ((rd_T47 l0_1 x37_3).f2) ((rd_T47 l0_1 x37_3).f3) = some r) ∧ Aside0 (kq ≤ k3) ∧ Aside0 (wc.heap[gb159]? = some (.cells #[(.slice A0_0 l0_0.length c0_0), (.slice (some ad162) l0_1.length c0_1)] 25 (0, 0))) ∧ Aside0 (wc.heap[gb163]? = some (.cells #[.string ((rd_T47 l0_1 x37_3).f0), .int .i64 ((rd_T47 l0_1 x37_3).f1), .int .i64 ((rd_T47 l0_1 x37_3).f2), (.slice A162_3 ((rd_T47 l0_1 x37_3).f3).length c162_3)] 47 (0, 0))) ∧ Aside0 (Below w.heap.size w wc))
                        case first =>
                          have H := HC23.out
                          clear HC23
                          by_cases c27 : (((rd_T47 l0_1 x37_3).f0).size : Int) > 100
                          · rw [if_pos c27] at H
                            have c27b0 : decide (100 < (((rd_T47 l0_1 x37_3).f0).size : Int)) = true := decide_eq_true c27
                            have c27b1 : decide (100 < ((rd_T47 l0_1 x37_3).f0).size) = true := decide_eq_true (by omega)
                            clear c27
                            (first | rw [c27b0] | (simp only [i64_w, i32_w]; rw [c27b0]) | skip)
                            have H' := Aside0.mk H
                            clear H
                            have hnb28 := NB163_159.out
                            have hnc28 := NB159_163.out
                            have hcz29_0 : w24.cell? ⟨gb163, 0, none⟩ = some (.string (⟨#[]⟩ : ByteArray)) := (blk_cell BK163.out 0).trans rfl
                            have hcz29_1 : w24.cell? ⟨gb163, 1, none⟩ = some (.int .i64 0) := (blk_cell BK163.out 1).trans rfl
                            have hcz29_2 : w24.cell? ⟨gb163, 2, none⟩ = some (.int .i64 0) := (blk_cell BK163.out 2).trans rfl
                            have hcz29_3 : w24.cell? ⟨gb163, 3, none⟩ = some (.slice none 0 0) := (blk_cell BK163.out 3).trans rfl
                            have hfz29_0 := blk_frozen BK163.out 0
                            have hfz29_1 := blk_frozen BK163.out 1
                            have hfz29_2 := blk_frozen BK163.out 2
                            have hfz29_3 := blk_frozen BK163.out 3
                            go_wp2
                            go_meet
                            case rel => exact ⟨_, (true), (by first | rfl | (simp; done) | (simp [*]; done)), H', ⟨by have := HJ1.out; have := HK2.out; have := HK3.out; first | omega | exact Nat.le_refl _⟩, ⟨by (with_reducible repeat (first | refine blk_drewN ?_ _ | refine blk_drew ?_ | refine blk_alloc ?_ _)); refine blk_far ?_ NB159_163.out _; (with_reducible repeat (first | refine blk_drewN ?_ _ | refine blk_drew ?_ | refine blk_alloc ?_ _)); refine blk_far ?_ NB159_163.out _; (with_reducible repeat (first | refine blk_drewN ?_ _ | refine blk_drew ?_ | refine blk_alloc ?_ _)); refine blk_far ?_ NB159_163.out _; (with_reducible repeat (first | refine blk_drewN ?_ _ | refine blk_drew ?_ | refine blk_alloc ?_ _)); refine blk_far ?_ NB159_163.out _; (with_reducible repeat (first | refine blk_drewN ?_ _ | refine blk_drew ?_ | refine blk_alloc ?_ _)); exact BK159.out⟩, ⟨by (with_reducible repeat (first | refine blk_drewN ?_ _ | refine blk_drew ?_ | refine blk_alloc ?_ _)); refine blk_put (cs := #[.string ((rd_T47 l0_1 x37_3).f0), .int .i64 ((rd_T47 l0_1 x37_3).f1), .int .i64 ((rd_T47 l0_1 x37_3).f2), .slice none 0 0]) ?_ 3 _ rfl; (with_reducible repeat (first | refine blk_drewN ?_ _ | refine blk_drew ?_ | refine blk_alloc ?_ _)); refine blk_put (cs := #[.string ((rd_T47 l0_1 x37_3).f0), .int .i64 ((rd_T47 l0_1 x37_3).f1), .int .i64 0, .slice none 0 0]) ?_ 2 _ rfl; (with_reducible repeat (first | refine blk_drewN ?_ _ | refine blk_drew ?_ | refine blk_alloc ?_ _)); refine blk_put (cs := #[.string ((rd_T47 l0_1 x37_3).f0), .int .i64 0, .int .i64 0, .slice none 0 0]) ?_ 1 _ rfl; (with_reducible repeat (first | refine blk_drewN ?_ _ | refine blk_drew ?_ | refine blk_alloc ?_ _)); refine blk_put (cs := #[.string (⟨#[]⟩ : ByteArray), .int .i64 0, .int .i64 0, .slice none 0 0]) ?_ 0 _ rfl; (with_reducible repeat (first | refine blk_drewN ?_ _ | refine blk_drew ?_ | refine blk_alloc ?_ _)); exact BK163.out⟩, ⟨by repeat (first | (with_reducible first | exact HB.out | apply below_alloc | apply pw_below_drewN | apply below_drew1 | refine below_set ?_ GE159.out | refine below_set ?_ GE163.out) | exact HB.out)⟩⟩
                          · rw [if_neg c27] at H
                            have c27b0 : decide (100 < (((rd_T47 l0_1 x37_3).f0).size : Int)) = false := decide_eq_false c27
                            have c27b1 : decide (100 < ((rd_T47 l0_1 x37_3).f0).size) = false := decide_eq_false (by omega)
                            clear c27
                            (first | rw [c27b0] | (simp only [i64_w, i32_w]; rw [c27b0]) | skip)
                            have H' := Aside0.mk H
                            clear H
                            have hnb30 := NB163_159.out
                            have hnc30 := NB159_163.out
                            have hcz31_0 : w24.cell? ⟨gb163, 0, none⟩ = some (.string (⟨#[]⟩ : ByteArray)) := (blk_cell BK163.out 0).trans rfl
                            have hcz31_1 : w24.cell? ⟨gb163, 1, none⟩ = some (.int .i64 0) := (blk_cell BK163.out 1).trans rfl
                            have hcz31_2 : w24.cell? ⟨gb163, 2, none⟩ = some (.int .i64 0) := (blk_cell BK163.out 2).trans rfl
                            have hcz31_3 : w24.cell? ⟨gb163, 3, none⟩ = some (.slice none 0 0) := (blk_cell BK163.out 3).trans rfl
                            have hfz31_0 := blk_frozen BK163.out 0
                            have hfz31_1 := blk_frozen BK163.out 1
                            have hfz31_2 := blk_frozen BK163.out 2
                            have hfz31_3 := blk_frozen BK163.out 3
                            go_wp2
                            go_meet
                            case rel => exact ⟨_, (decide ((((rd_T47 l0_1 x37_3).f3).length : Int) > 80)), (by first | rfl | (simp; done) | (simp [*]; done)), H', ⟨by have := HJ1.out; have := HK2.out; have := HK3.out; first | omega | exact Nat.le_refl _⟩, ⟨by (with_reducible repeat (first | refine blk_drewN ?_ _ | refine blk_drew ?_ | refine blk_alloc ?_ _)); refine blk_far ?_ NB159_163.out _; (with_reducible repeat (first | refine blk_drewN ?_ _ | refine blk_drew ?_ | refine blk_alloc ?_ _)); refine blk_far ?_ NB159_163.out _; (with_reducible repeat (first | refine blk_drewN ?_ _ | refine blk_drew ?_ | refine blk_alloc ?_ _)); refine blk_far ?_ NB159_163.out _; (with_reducible repeat (first | refine blk_drewN ?_ _ | refine blk_drew ?_ | refine blk_alloc ?_ _)); refine blk_far ?_ NB159_163.out _; (with_reducible repeat (first | refine blk_drewN ?_ _ | refine blk_drew ?_ | refine blk_alloc ?_ _)); exact BK159.out⟩, ⟨by (with_reducible repeat (first | refine blk_drewN ?_ _ | refine blk_drew ?_ | refine blk_alloc ?_ _)); refine blk_put (cs := #[.string ((rd_T47 l0_1 x37_3).f0), .int .i64 ((rd_T47 l0_1 x37_3).f1), .int .i64 ((rd_T47 l0_1 x37_3).f2), .slice none 0 0]) ?_ 3 _ rfl; (with_reducible repeat (first | refine blk_drewN ?_ _ | refine blk_drew ?_ | refine blk_alloc ?_ _)); refine blk_put (cs := #[.string ((rd_T47 l0_1 x37_3).f0), .int .i64 ((rd_T47 l0_1 x37_3).f1), .int .i64 0, .slice none 0 0]) ?_ 2 _ rfl; (with_reducible repeat (first | refine blk_drewN ?_ _ | refine blk_drew ?_ | refine blk_alloc ?_ _)); refine blk_put (cs := #[.string ((rd_T47 l0_1 x37_3).f0), .int .i64 0, .int .i64 0, .slice none 0 0]) ?_ 1 _ rfl; (with_reducible repeat (first | refine blk_drewN ?_ _ | refine blk_drew ?_ | refine blk_alloc ?_ _)); refine blk_put (cs := #[.string (⟨#[]⟩ : ByteArray), .int .i64 0, .int .i64 0, .slice none 0 0]) ?_ 0 _ rfl; (with_reducible repeat (first | refine blk_drewN ?_ _ | refine blk_drew ?_ | refine blk_alloc ?_ _)); exact BK163.out⟩, ⟨by repeat (first | (with_reducible first | exact HB.out | apply below_alloc | apply pw_below_drewN | apply below_drew1 | refine below_set ?_ GE159.out | refine below_set ?_ GE163.out) | exact HB.out)⟩⟩
                        case rest =>
                          clear HC23
                          try clear c1
                          try clear p1
                          try clear q1
                          try clear hx1
                          try clear c2
                          try clear p2
                          try clear c3
                          try clear c4
                          try clear c4b0
                          try clear c4b1
                          try clear p6
                          try clear c7
                          try clear c9
                          try clear c9b0
                          try clear c10
                          try clear c10b0
                          try clear c11
                          try clear c11b0
                          try clear c12
                          try clear c12b0
                          try clear c12b1
                          try clear c14
                          try clear c16
                          try clear p16
                          try clear q16
                          try clear hx16
                          try clear c17
                          try clear c20
                          try clear c20b0
                          try clear c21
                          try clear c21b0
                          try clear c22
                          try clear c22b0
                          try clear c25
                          try clear c27
                          try clear c27b0
                          try clear c27b1
                          try clear c28
                          try clear c30
                          try clear hcz15_0
                          try clear hcz15_1
                          try clear hcz18_0
                          try clear hcz18_1
                          try clear hcz19_0
                          try clear hcz19_1
                          try clear hcz26_0
                          try clear hcz26_1
                          try clear hcz26_2
                          try clear hcz26_3
                          try clear hcz29_0
                          try clear hcz29_1
                          try clear hcz29_2
                          try clear hcz29_3
                          try clear hcz31_0
                          try clear hcz31_1
                          try clear hcz31_2
                          try clear hcz31_3
                          try clear hcz5_0
                          try clear hcz5_1
                          try clear hcz6_0
                          try clear hcz6_1
                          try clear hcz8_0
                          try clear hcz8_1
                          try clear hfz15_0
                          try clear hfz15_1
                          try clear hfz18_0
                          try clear hfz18_1
                          try clear hfz19_0
                          try clear hfz19_1
                          try clear hfz26_0
                          try clear hfz26_1
                          try clear hfz26_2
                          try clear hfz26_3
                          try clear hfz29_0
                          try clear hfz29_1
                          try clear hfz29_2
                          try clear hfz29_3
                          try clear hfz31_0
                          try clear hfz31_1
                          try clear hfz31_2
                          try clear hfz31_3
                          try clear hfz5_0
                          try clear hfz5_1
                          try clear hfz6_0
                          try clear hfz6_1
                          try clear hfz8_0
                          try clear hfz8_1
                          try clear hx160_0
                          try clear hx160_1
                          try clear hx162_0
                          try clear hx162_1
                          try clear hx162_2
                          try clear hx162_3
                          try clear p1
                          try clear p16
                          try clear p160
                          try clear p162
                          try clear p2
                          try clear p6
                          try clear q1
                          try clear q16
                          try clear q160
                          try clear q162
                          obtain ⟨kq, x50_22, rfl, HA, HJ22, BK159, BK163, HB⟩ := hcut
                          cases kq with
                          | zero => exact absurd HA.out (by simp [brazierlaw11_Light.j3])
                          | succ kj22 =>
                            have H := HA.out
                            clear HA
                            simp only [brazierlaw11_Light.j3] at H
                            by_cases c32 : x50_22 = true
                            · subst c32
                              have H1 : (some false) = some r := by rw [if_pos rfl] at H; exact H
                              clear H
                              have H := H1
                              clear H1
                              obtain rfl := Option.some.inj H
                              go_wp2
                              go_ret
                              exact ⟨by first | rfl | (simp [errW_none, errW_some] <;> rfl) | (simp [*, errW_none, errW_some] <;> rfl), by repeat (first | (with_reducible first | exact HB.out | apply below_alloc | apply pw_below_drewN | apply below_drew1 | refine below_set ?_ GE159.out | refine below_set ?_ GE163.out) | exact HB.out)⟩
                            · replace c32 := Bool.eq_false_iff.mpr c32
                              subst c32
                              have H1 : (brazierlaw11_Light.l2 kj22 x5_3 l0_1 (l0_1.length : Int) x37_3 ((rd_T47 l0_1 x37_3).f3) (((rd_T47 l0_1 x37_3).f3).length : Int) 0) = some r := by rw [if_neg (show ¬ (false = true) by decide)] at H; exact H
                              clear H
                              have H := H1
                              clear H1
                              have H' := Aside0.mk H
                              clear H
                              have hnb33 := NB163_159.out
                              have hnc33 := NB159_163.out
                              have hcz34_0 : wc.cell? ⟨gb163, 0, none⟩ = some (.string ((rd_T47 l0_1 x37_3).f0)) := (blk_cell BK163.out 0).trans rfl
                              have hcz34_1 : wc.cell? ⟨gb163, 1, none⟩ = some (.int .i64 ((rd_T47 l0_1 x37_3).f1)) := (blk_cell BK163.out 1).trans rfl
                              have hcz34_2 : wc.cell? ⟨gb163, 2, none⟩ = some (.int .i64 ((rd_T47 l0_1 x37_3).f2)) := (blk_cell BK163.out 2).trans rfl
                              have hcz34_3 : wc.cell? ⟨gb163, 3, none⟩ = some (.slice A162_3 ((rd_T47 l0_1 x37_3).f3).length c162_3) := (blk_cell BK163.out 3).trans rfl
                              have hfz34_0 := blk_frozen BK163.out 0
                              have hfz34_1 := blk_frozen BK163.out 1
                              have hfz34_2 := blk_frozen BK163.out 2
                              have hfz34_3 := blk_frozen BK163.out 3
                              go_wp2
                              go_loopg [5, 54] kj22 (fun kq v5 v54 w' => ∃ (x5_5 : Int) (x54_5 : Int), v5 = .int .i64 x5_5 ∧ v54 = .int .i64 x54_5 ∧ Aside0 (brazierlaw11_Light.l2 kq x5_5 l0_1 (l0_1.length : Int) x37_3 ((rd_T47 l0_1 x37_3).f3) (((rd_T47 l0_1 x37_3).f3).length : Int) x54_5 = some r) ∧ Aside0 (kq ≤ kj22) ∧ Aside0 (w'.heap[gb159]? = some (.cells #[(.slice A0_0 l0_0.length c0_0), (.slice (some ad162) l0_1.length c0_1)] 25 (0, 0))) ∧ Aside0 (w'.heap[gb163]? = some (.cells #[.string ((rd_T47 l0_1 x37_3).f0), .int .i64 ((rd_T47 l0_1 x37_3).f1), .int .i64 ((rd_T47 l0_1 x37_3).f2), (.slice A162_3 ((rd_T47 l0_1 x37_3).f3).length c162_3)] 47 (0, 0))) ∧ Aside0 (Below w.heap.size w w'))
                              case atStart => exact ⟨(x5_3), (0), (by first | rfl | (simp; done) | (simp [*]; done)), (by first | rfl | (simp; done) | (simp [*]; done)), H', ⟨Nat.le_refl _⟩, ⟨by (with_reducible repeat (first | refine blk_drewN ?_ _ | refine blk_drew ?_ | refine blk_alloc ?_ _)); exact BK159.out⟩, ⟨by (with_reducible repeat (first | refine blk_drewN ?_ _ | refine blk_drew ?_ | refine blk_alloc ?_ _)); exact BK163.out⟩, ⟨by repeat (first | (with_reducible first | exact HB.out | apply below_alloc | apply pw_below_drewN | apply below_drew1 | refine below_set ?_ GE159.out | refine below_set ?_ GE163.out) | exact HB.out)⟩⟩
                              case round =>
                                clear H'
                                try clear c1
                                try clear p1
                                try clear q1
                                try clear hx1
                                try clear c2
                                try clear p2
                                try clear c3
                                try clear c4
                                try clear c4b0
                                try clear c4b1
                                try clear p6
                                try clear c7
                                try clear c9
                                try clear c9b0
                                try clear c10
                                try clear c10b0
                                try clear c11
                                try clear c11b0
                                try clear c12
                                try clear c12b0
                                try clear c12b1
                                try clear c14
                                try clear c16
                                try clear p16
                                try clear q16
                                try clear hx16
                                try clear c17
                                try clear c20
                                try clear c20b0
                                try clear c21
                                try clear c21b0
                                try clear c22
                                try clear c22b0
                                try clear c25
                                try clear c27
                                try clear c27b0
                                try clear c27b1
                                try clear c28
                                try clear c30
                                try clear c32
                                try clear c33
                                try clear hcz15_0
                                try clear hcz15_1
                                try clear hcz18_0
                                try clear hcz18_1
                                try clear hcz19_0
                                try clear hcz19_1
                                try clear hcz26_0
                                try clear hcz26_1
                                try clear hcz26_2
                                try clear hcz26_3
                                try clear hcz29_0
                                try clear hcz29_1
                                try clear hcz29_2
                                try clear hcz29_3
                                try clear hcz31_0
                                try clear hcz31_1
                                try clear hcz31_2
                                try clear hcz31_3
                                try clear hcz34_0
                                try clear hcz34_1
                                try clear hcz34_2
                                try clear hcz34_3
                                try clear hcz5_0
                                try clear hcz5_1
                                try clear hcz6_0
                                try clear hcz6_1
                                try clear hcz8_0
                                try clear hcz8_1
                                try clear hfz15_0
                                try clear hfz15_1
                                try clear hfz18_0
                                try clear hfz18_1
                                try clear hfz19_0
                                try clear hfz19_1
                                try clear hfz26_0
                                try clear hfz26_1
                                try clear hfz26_2
                                try clear hfz26_3
                                try clear hfz29_0
                                try clear hfz29_1
                                try clear hfz29_2
                                try clear hfz29_3
                                try clear hfz31_0
                                try clear hfz31_1
                                try clear hfz31_2
                                try clear hfz31_3
                                try clear hfz34_0
                                try clear hfz34_1
                                try clear hfz34_2
                                try clear hfz34_3
                                try clear hfz5_0
                                try clear hfz5_1
                                try clear hfz6_0
                                try clear hfz6_1
                                try clear hfz8_0
                                try clear hfz8_1
                                try clear hx160_0
                                try clear hx160_1
                                try clear hx162_0
                                try clear hx162_1
                                try clear hx162_2
                                try clear hx162_3
                                try clear p1
                                try clear p16
                                try clear p160
                                try clear p162
                                try clear p2
                                try clear p6
                                try clear q1
                                try clear q16
                                try clear q160
                                try clear q162
                                obtain ⟨x5_5, x54_5, rfl, rfl, HA, HK5, BK159, BK163, HB⟩ := hrel
                                cases gk with
                                | zero => exact absurd HA.out (by simp [brazierlaw11_Light.l2])
                                | succ k5 =>
                                  have H := HA.out
                                  clear HA
                                  simp only [brazierlaw11_Light.l2] at H
                                  by_cases c35 : x54_5 < (((rd_T47 l0_1 x37_3).f3).length : Int)
                                  · rw [if_pos c35] at H
                                    have c35b0 : decide (x54_5 < (((rd_T47 l0_1 x37_3).f3).length : Int)) = true := decide_eq_true c35
                                    clear c35
                                    by_cases c36 : 0 ≤ x54_5
                                    · rw [if_pos c36] at H
                                      have c36b0 : decide (0 ≤ x54_5) = true := decide_eq_true c36
                                      clear c36
                                      by_cases c37 : x54_5 < (((rd_T47 l0_1 x37_3).f3).length : Int)
                                      · rw [if_pos c37] at H
                                        have c37b0 : decide (x54_5 < (((rd_T47 l0_1 x37_3).f3).length : Int)) = true := decide_eq_true c37
                                        clear c37
                                        have HC38 := Aside0.mk H
                                        clear H
                                        have p164 : 0 ≤ (x54_5 : Int) := of_decide_eq_true (by first | (with_reducible assumption) | assumption)
                                        have q164 : x54_5 < (((rd_T47 l0_1 x37_3).f3).length : Int) := of_decide_eq_true (by first | (with_reducible assumption) | assumption)
                                        obtain ⟨ad164, A164_0, c164_0, e164, hx164_0, hx164_1, hx164_2, hx164_3, hx164_4, hl164_0, hi164_0⟩ := at_T41 HR162_3.out x54_5 p164 q164
                                        cases e164
                                        replace hx164_0 := (HB.out.cell (World.block_lt_of_cell? w _ hx164_0)).trans hx164_0
                                        replace hx164_1 := (HB.out.cell (World.block_lt_of_cell? w _ hx164_1)).trans hx164_1
                                        replace hx164_2 := (HB.out.cell (World.block_lt_of_cell? w _ hx164_2)).trans hx164_2
                                        replace hx164_3 := (HB.out.cell (World.block_lt_of_cell? w _ hx164_3)).trans hx164_3
                                        replace hx164_4 := (HB.out.cell (World.block_lt_of_cell? w _ hx164_4)).trans hx164_4
                                        have HR164_0 := Aside0.mk hi164_0
                                        have HC164_0 := Aside0.mk hl164_0
                                        clear hi164_0 hl164_0
                                        replace p164 := eq_true p164
                                        replace q164 := eq_true q164
                                        go_upto_region 19 with (first | ((with_reducible refine gate_dst (N := 9) rfl ?_); (try (refine gate_guard (by rfl) ?_; dsimp only)); refine box_event ?hg (N := 9) ?hd (cs := #[.slice none 0 0, .int .i64 0, .int .i64 0, .int .i64 0, .int .i64 0]) (t := 41) ?hr ?_; (case hd => rfl); (case hg => rfl); (case hr => first | (go_simp; done) | (go_simp; rfl)); intro gb165 hg w39 hbox hb; have n0_ := Aside0.mk (blk_below (g := gb159) (o := .cells #[.slice A0_0 l0_0.length c0_0, .slice (some ad162) l0_1.length c0_1] 25 (0, 0)) (by (with_reducible repeat (first | refine blk_drewN ?_ _ | refine blk_drew ?_ | refine blk_alloc ?_ _)); exact BK159.out) hb); have n1_ := Aside0.mk (blk_below (g := gb163) (o := .cells #[.string ((rd_T47 l0_1 x37_3).f0), .int .i64 ((rd_T47 l0_1 x37_3).f1), .int .i64 ((rd_T47 l0_1 x37_3).f2), .slice (some ad164) ((rd_T47 l0_1 x37_3).f3).length c162_3] 47 (0, 0)) (by (with_reducible repeat (first | refine blk_drewN ?_ _ | refine blk_drew ?_ | refine blk_alloc ?_ _)); exact BK163.out) hb); have n2_ := Aside0.mk (below_step (by repeat (first | (with_reducible first | exact HB.out | apply below_alloc | apply pw_below_drewN | apply below_drew1 | refine below_set ?_ GE159.out | refine below_set ?_ GE163.out) | exact HB.out)) hb); have n3_ := Aside0.mk (hbox); have n4_ := Aside0.mk ((by rw [hg]; exact (below_size (by repeat (first | (with_reducible first | exact HB.out | apply below_alloc | apply pw_below_drewN | apply below_drew1 | refine below_set ?_ GE159.out | refine below_set ?_ GE163.out) | exact HB.out))) : w.heap.size ≤ gb165)); have n5_ := Aside0.mk ((by rw [hg]; exact (below_size (by repeat (first | (with_reducible first | exact HB.out | apply below_alloc | apply pw_below_drewN | apply below_drew1 | refine below_set ?_ GE159.out | refine below_set ?_ GE163.out) | exact HB.out))) : w.heap.size ≤ gb165)); have n6_ := Aside0.mk ((by rw [hg]; exact Nat.ne_of_lt (blk_lt (g := gb159) (o := .cells #[.slice A0_0 l0_0.length c0_0, .slice (some ad162) l0_1.length c0_1] 25 (0, 0)) (by (with_reducible repeat (first | refine blk_drewN ?_ _ | refine blk_drew ?_ | refine blk_alloc ?_ _)); exact BK159.out)) : gb159 ≠ gb165)); have n7_ := Aside0.mk ((by rw [hg]; exact Nat.ne_of_gt (blk_lt (g := gb159) (o := .cells #[.slice A0_0 l0_0.length c0_0, .slice (some ad162) l0_1.length c0_1] 25 (0, 0)) (by (with_reducible repeat (first | refine blk_drewN ?_ _ | refine blk_drew ?_ | refine blk_alloc ?_ _)); exact BK159.out)) : gb165 ≠ gb159)); have n8_ := Aside0.mk ((by rw [hg]; exact Nat.ne_of_lt (blk_lt (g := gb163) (o := .cells #[.string ((rd_T47 l0_1 x37_3).f0), .int .i64 ((rd_T47 l0_1 x37_3).f1), .int .i64 ((rd_T47 l0_1 x37_3).f2), .slice (some ad164) ((rd_T47 l0_1 x37_3).f3).length c162_3] 47 (0, 0)) (by (with_reducible repeat (first | refine blk_drewN ?_ _ | refine blk_drew ?_ | refine blk_alloc ?_ _)); exact BK163.out)) : gb163 ≠ gb165)); have n9_ := Aside0.mk ((by rw [hg]; exact Nat.ne_of_gt (blk_lt (g := gb163) (o := .cells #[.string ((rd_T47 l0_1 x37_3).f0), .int .i64 ((rd_T47 l0_1 x37_3).f1), .int .i64 ((rd_T47 l0_1 x37_3).f2), .slice (some ad164) ((rd_T47 l0_1 x37_3).f3).length c162_3] 47 (0, 0)) (by (with_reducible repeat (first | refine blk_drewN ?_ _ | refine blk_drew ?_ | refine blk_alloc ?_ _)); exact BK163.out)) : gb165 ≠ gb163)); clear BK159; clear BK163; clear HB; have BK159 := n0_; have BK163 := n1_; have HB := n2_; have BK165 := n3_; have GW165 := n4_; have GE165 := n5_; have NB159_165 := n6_; have NB165_159 := n7_; have NB163_165 := n8_; have NB165_163 := n9_; clear n0_ n1_ n2_ n3_ n4_ n5_ n6_ n7_ n8_ n9_; clear hb hbox hg; have hnb40 := NB165_159.out; have hnc40 := NB159_165.out; have hnb41 := NB165_163.out; have hnc41 := NB163_165.out; have hcz42_0 : w39.cell? ⟨gb165, 0, none⟩ = some (.slice none 0 0) := (blk_cell BK165.out 0).trans rfl; have hcz42_1 : w39.cell? ⟨gb165, 1, none⟩ = some (.int .i64 0) := (blk_cell BK165.out 1).trans rfl; have hcz42_2 : w39.cell? ⟨gb165, 2, none⟩ = some (.int .i64 0) := (blk_cell BK165.out 2).trans rfl; have hcz42_3 : w39.cell? ⟨gb165, 3, none⟩ = some (.int .i64 0) := (blk_cell BK165.out 3).trans rfl; have hcz42_4 : w39.cell? ⟨gb165, 4, none⟩ = some (.int .i64 0) := (blk_cell BK165.out 4).trans rfl; have hfz42_0 := blk_frozen BK165.out 0; have hfz42_1 := blk_frozen BK165.out 1; have hfz42_2 := blk_frozen BK165.out 2; have hfz42_3 := blk_frozen BK165.out 3; have hfz42_4 := blk_frozen BK165.out 4))
                                        (try simp only [Act.put, List.setIfInBounds_toArray, List.set_cons_zero, List.set_cons_succ])
                                        go_cut [70] (fun v70 wc => ∃ (kq : Nat) (x70_37 : Bool), v70 = .bool x70_37 ∧ Aside0 (brazierlaw11_Light.j5 kq (wrap64 (x5_5 + (((rd_T41 ((rd_T47 l0_1 x37_3).f3) x54_5).f0).length : Int))) l0_1 (l0_1.length : Int) x37_3 ((rd_T47 l0_1 x37_3).f3) (((rd_T47 l0_1 x37_3).f3).length : Int) x54_5 x70_37 ((rd_T41 ((rd_T47 l0_1 x37_3).f3) x54_5).f0) ((rd_T41 ((rd_T47 l0_1 x37_3).f3) x54_5).f1) ((rd_T41 ((rd_T47 l0_1 x37_3).f3) x54_5).f2) ((rd_T41 ((rd_T47 l0_1 x37_3).f3) x54_5).f3) ((rd_T41 ((rd_T47 l0_1 x37_3).f3) x54_5).f4) = some r) ∧ Aside0 (kq ≤ k5) ∧ Aside0 (wc.heap[gb159]? = some (.cells #[(.slice A0_0 l0_0.length c0_0), (.slice (some ad162) l0_1.length c0_1)] 25 (0, 0))) ∧ Aside0 (wc.heap[gb163]? = some (.cells #[.string ((rd_T47 l0_1 x37_3).f0), .int .i64 ((rd_T47 l0_1 x37_3).f1), .int .i64 ((rd_T47 l0_1 x37_3).f2), (.slice (some ad164) ((rd_T47 l0_1 x37_3).f3).length c162_3)] 47 (0, 0))) ∧ Aside0 (wc.heap[gb165]? = some (.cells #[(.slice A164_0 ((rd_T41 ((rd_T47 l0_1 x37_3).f3) x54_5).f0).length c164_0), .int .i64 ((rd_T41 ((rd_T47 l0_1 x37_3).f3) x54_5).f1), .int .i64 ((rd_T41 ((rd_T47 l0_1 x37_3).f3) x54_5).f2), .int .i64 ((rd_T41 ((rd_T47 l0_1 x37_3).f3) x54_5).f3), .int .i64 ((rd_T41 ((rd_T47 l0_1 x37_3).f3) x54_5).f4)] 41 (0, 0))) ∧ Aside0 (Below w.heap.size w wc))
                                        case first =>
                                          have H := HC38.out
                                          clear HC38
                                          by_cases c43 : (((rd_T41 ((rd_T47 l0_1 x37_3).f3) x54_5).f0).length : Int) > 100
                                          · rw [if_pos c43] at H
                                            have c43b0 : decide (100 < (((rd_T41 ((rd_T47 l0_1 x37_3).f3) x54_5).f0).length : Int)) = true := decide_eq_true c43
                                            have c43b1 : decide (100 < ((rd_T41 ((rd_T47 l0_1 x37_3).f3) x54_5).f0).length) = true := decide_eq_true (by omega)
                                            clear c43
                                            (first | rw [c43b0] | (simp only [i64_w, i32_w]; rw [c43b0]) | skip)
                                            have H' := Aside0.mk H
                                            clear H
                                            have hnb44 := NB165_159.out
                                            have hnc44 := NB159_165.out
                                            have hnb45 := NB165_163.out
                                            have hnc45 := NB163_165.out
                                            have hcz46_0 : w39.cell? ⟨gb165, 0, none⟩ = some (.slice none 0 0) := (blk_cell BK165.out 0).trans rfl
                                            have hcz46_1 : w39.cell? ⟨gb165, 1, none⟩ = some (.int .i64 0) := (blk_cell BK165.out 1).trans rfl
                                            have hcz46_2 : w39.cell? ⟨gb165, 2, none⟩ = some (.int .i64 0) := (blk_cell BK165.out 2).trans rfl
                                            have hcz46_3 : w39.cell? ⟨gb165, 3, none⟩ = some (.int .i64 0) := (blk_cell BK165.out 3).trans rfl
                                            have hcz46_4 : w39.cell? ⟨gb165, 4, none⟩ = some (.int .i64 0) := (blk_cell BK165.out 4).trans rfl
                                            have hfz46_0 := blk_frozen BK165.out 0
                                            have hfz46_1 := blk_frozen BK165.out 1
                                            have hfz46_2 := blk_frozen BK165.out 2
                                            have hfz46_3 := blk_frozen BK165.out 3
                                            have hfz46_4 := blk_frozen BK165.out 4
                                            go_wp2
                                            go_meet
                                            case rel => exact ⟨_, (true), (by first | rfl | (simp; done) | (simp [*]; done)), H', ⟨by have := HJ1.out; have := HK2.out; have := HK3.out; have := HJ22.out; have := HK5.out; first | omega | exact Nat.le_refl _⟩, ⟨by (with_reducible repeat (first | refine blk_drewN ?_ _ | refine blk_drew ?_ | refine blk_alloc ?_ _)); refine blk_far ?_ NB159_165.out _; (with_reducible repeat (first | refine blk_drewN ?_ _ | refine blk_drew ?_ | refine blk_alloc ?_ _)); refine blk_far ?_ NB159_165.out _; (with_reducible repeat (first | refine blk_drewN ?_ _ | refine blk_drew ?_ | refine blk_alloc ?_ _)); refine blk_far ?_ NB159_165.out _; (with_reducible repeat (first | refine blk_drewN ?_ _ | refine blk_drew ?_ | refine blk_alloc ?_ _)); refine blk_far ?_ NB159_165.out _; (with_reducible repeat (first | refine blk_drewN ?_ _ | refine blk_drew ?_ | refine blk_alloc ?_ _)); refine blk_far ?_ NB159_165.out _; (with_reducible repeat (first | refine blk_drewN ?_ _ | refine blk_drew ?_ | refine blk_alloc ?_ _)); exact BK159.out⟩, ⟨by (with_reducible repeat (first | refine blk_drewN ?_ _ | refine blk_drew ?_ | refine blk_alloc ?_ _)); refine blk_far ?_ NB163_165.out _; (with_reducible repeat (first | refine blk_drewN ?_ _ | refine blk_drew ?_ | refine blk_alloc ?_ _)); refine blk_far ?_ NB163_165.out _; (with_reducible repeat (first | refine blk_drewN ?_ _ | refine blk_drew ?_ | refine blk_alloc ?_ _)); refine blk_far ?_ NB163_165.out _; (with_reducible repeat (first | refine blk_drewN ?_ _ | refine blk_drew ?_ | refine blk_alloc ?_ _)); refine blk_far ?_ NB163_165.out _; (with_reducible repeat (first | refine blk_drewN ?_ _ | refine blk_drew ?_ | refine blk_alloc ?_ _)); refine blk_far ?_ NB163_165.out _; (with_reducible repeat (first | refine blk_drewN ?_ _ | refine blk_drew ?_ | refine blk_alloc ?_ _)); exact BK163.out⟩, ⟨by (with_reducible repeat (first | refine blk_drewN ?_ _ | refine blk_drew ?_ | refine blk_alloc ?_ _)); refine blk_put (cs := #[.slice A164_0 ((rd_T41 ((rd_T47 l0_1 x37_3).f3) x54_5).f0).length c164_0, .int .i64 ((rd_T41 ((rd_T47 l0_1 x37_3).f3) x54_5).f1), .int .i64 ((rd_T41 ((rd_T47 l0_1 x37_3).f3) x54_5).f2), .int .i64 ((rd_T41 ((rd_T47 l0_1 x37_3).f3) x54_5).f3), .int .i64 0]) ?_ 4 _ rfl; (with_reducible repeat (first | refine blk_drewN ?_ _ | refine blk_drew ?_ | refine blk_alloc ?_ _)); refine blk_put (cs := #[.slice A164_0 ((rd_T41 ((rd_T47 l0_1 x37_3).f3) x54_5).f0).length c164_0, .int .i64 ((rd_T41 ((rd_T47 l0_1 x37_3).f3) x54_5).f1), .int .i64 ((rd_T41 ((rd_T47 l0_1 x37_3).f3) x54_5).f2), .int .i64 0, .int .i64 0]) ?_ 3 _ rfl; (with_reducible repeat (first | refine blk_drewN ?_ _ | refine blk_drew ?_ | refine blk_alloc ?_ _)); refine blk_put (cs := #[.slice A164_0 ((rd_T41 ((rd_T47 l0_1 x37_3).f3) x54_5).f0).length c164_0, .int .i64 ((rd_T41 ((rd_T47 l0_1 x37_3).f3) x54_5).f1), .int .i64 0, .int .i64 0, .int .i64 0]) ?_ 2 _ rfl; (with_reducible repeat (first | refine blk_drewN ?_ _ | refine blk_drew ?_ | refine blk_alloc ?_ _)); refine blk_put (cs := #[.slice A164_0 ((rd_T41 ((rd_T47 l0_1 x37_3).f3) x54_5).f0).length c164_0, .int .i64 0, .int .i64 0, .int .i64 0, .int .i64 0]) ?_ 1 _ rfl; (with_reducible repeat (first | refine blk_drewN ?_ _ | refine blk_drew ?_ | refine blk_alloc ?_ _)); refine blk_put (cs := #[.slice none 0 0, .int .i64 0, .int .i64 0, .int .i64 0, .int .i64 0]) ?_ 0 _ rfl; (with_reducible repeat (first | refine blk_drewN ?_ _ | refine blk_drew ?_ | refine blk_alloc ?_ _)); exact BK165.out⟩, ⟨by repeat (first | (with_reducible first | exact HB.out | apply below_alloc | apply pw_below_drewN | apply below_drew1 | refine below_set ?_ GE159.out | refine below_set ?_ GE163.out | refine below_set ?_ GE165.out) | exact HB.out)⟩⟩
                                          · rw [if_neg c43] at H
                                            have c43b0 : decide (100 < (((rd_T41 ((rd_T47 l0_1 x37_3).f3) x54_5).f0).length : Int)) = false := decide_eq_false c43
                                            have c43b1 : decide (100 < ((rd_T41 ((rd_T47 l0_1 x37_3).f3) x54_5).f0).length) = false := decide_eq_false (by omega)
                                            clear c43
                                            (first | rw [c43b0] | (simp only [i64_w, i32_w]; rw [c43b0]) | skip)
                                            have H' := Aside0.mk H
                                            clear H
                                            have hnb47 := NB165_159.out
                                            have hnc47 := NB159_165.out
                                            have hnb48 := NB165_163.out
                                            have hnc48 := NB163_165.out
                                            have hcz49_0 : w39.cell? ⟨gb165, 0, none⟩ = some (.slice none 0 0) := (blk_cell BK165.out 0).trans rfl
                                            have hcz49_1 : w39.cell? ⟨gb165, 1, none⟩ = some (.int .i64 0) := (blk_cell BK165.out 1).trans rfl
                                            have hcz49_2 : w39.cell? ⟨gb165, 2, none⟩ = some (.int .i64 0) := (blk_cell BK165.out 2).trans rfl
                                            have hcz49_3 : w39.cell? ⟨gb165, 3, none⟩ = some (.int .i64 0) := (blk_cell BK165.out 3).trans rfl
                                            have hcz49_4 : w39.cell? ⟨gb165, 4, none⟩ = some (.int .i64 0) := (blk_cell BK165.out 4).trans rfl
                                            have hfz49_0 := blk_frozen BK165.out 0
                                            have hfz49_1 := blk_frozen BK165.out 1
                                            have hfz49_2 := blk_frozen BK165.out 2
                                            have hfz49_3 := blk_frozen BK165.out 3
                                            have hfz49_4 := blk_frozen BK165.out 4
                                            go_wp2
                                            go_meet
                                            case rel => exact ⟨_, (decide ((wrap64 (x5_5 + (((rd_T41 ((rd_T47 l0_1 x37_3).f3) x54_5).f0).length : Int))) > 400)), (by first | rfl | (simp; done) | (simp [*]; done)), H', ⟨by have := HJ1.out; have := HK2.out; have := HK3.out; have := HJ22.out; have := HK5.out; first | omega | exact Nat.le_refl _⟩, ⟨by (with_reducible repeat (first | refine blk_drewN ?_ _ | refine blk_drew ?_ | refine blk_alloc ?_ _)); refine blk_far ?_ NB159_165.out _; (with_reducible repeat (first | refine blk_drewN ?_ _ | refine blk_drew ?_ | refine blk_alloc ?_ _)); refine blk_far ?_ NB159_165.out _; (with_reducible repeat (first | refine blk_drewN ?_ _ | refine blk_drew ?_ | refine blk_alloc ?_ _)); refine blk_far ?_ NB159_165.out _; (with_reducible repeat (first | refine blk_drewN ?_ _ | refine blk_drew ?_ | refine blk_alloc ?_ _)); refine blk_far ?_ NB159_165.out _; (with_reducible repeat (first | refine blk_drewN ?_ _ | refine blk_drew ?_ | refine blk_alloc ?_ _)); refine blk_far ?_ NB159_165.out _; (with_reducible repeat (first | refine blk_drewN ?_ _ | refine blk_drew ?_ | refine blk_alloc ?_ _)); exact BK159.out⟩, ⟨by (with_reducible repeat (first | refine blk_drewN ?_ _ | refine blk_drew ?_ | refine blk_alloc ?_ _)); refine blk_far ?_ NB163_165.out _; (with_reducible repeat (first | refine blk_drewN ?_ _ | refine blk_drew ?_ | refine blk_alloc ?_ _)); refine blk_far ?_ NB163_165.out _; (with_reducible repeat (first | refine blk_drewN ?_ _ | refine blk_drew ?_ | refine blk_alloc ?_ _)); refine blk_far ?_ NB163_165.out _; (with_reducible repeat (first | refine blk_drewN ?_ _ | refine blk_drew ?_ | refine blk_alloc ?_ _)); refine blk_far ?_ NB163_165.out _; (with_reducible repeat (first | refine blk_drewN ?_ _ | refine blk_drew ?_ | refine blk_alloc ?_ _)); refine blk_far ?_ NB163_165.out _; (with_reducible repeat (first | refine blk_drewN ?_ _ | refine blk_drew ?_ | refine blk_alloc ?_ _)); exact BK163.out⟩, ⟨by (with_reducible repeat (first | refine blk_drewN ?_ _ | refine blk_drew ?_ | refine blk_alloc ?_ _)); refine blk_put (cs := #[.slice A164_0 ((rd_T41 ((rd_T47 l0_1 x37_3).f3) x54_5).f0).length c164_0, .int .i64 ((rd_T41 ((rd_T47 l0_1 x37_3).f3) x54_5).f1), .int .i64 ((rd_T41 ((rd_T47 l0_1 x37_3).f3) x54_5).f2), .int .i64 ((rd_T41 ((rd_T47 l0_1 x37_3).f3) x54_5).f3), .int .i64 0]) ?_ 4 _ rfl; (with_reducible repeat (first | refine blk_drewN ?_ _ | refine blk_drew ?_ | refine blk_alloc ?_ _)); refine blk_put (cs := #[.slice A164_0 ((rd_T41 ((rd_T47 l0_1 x37_3).f3) x54_5).f0).length c164_0, .int .i64 ((rd_T41 ((rd_T47 l0_1 x37_3).f3) x54_5).f1), .int .i64 ((rd_T41 ((rd_T47 l0_1 x37_3).f3) x54_5).f2), .int .i64 0, .int .i64 0]) ?_ 3 _ rfl; (with_reducible repeat (first | refine blk_drewN ?_ _ | refine blk_drew ?_ | refine blk_alloc ?_ _)); refine blk_put (cs := #[.slice A164_0 ((rd_T41 ((rd_T47 l0_1 x37_3).f3) x54_5).f0).length c164_0, .int .i64 ((rd_T41 ((rd_T47 l0_1 x37_3).f3) x54_5).f1), .int .i64 0, .int .i64 0, .int .i64 0]) ?_ 2 _ rfl; (with_reducible repeat (first | refine blk_drewN ?_ _ | refine blk_drew ?_ | refine blk_alloc ?_ _)); refine blk_put (cs := #[.slice A164_0 ((rd_T41 ((rd_T47 l0_1 x37_3).f3) x54_5).f0).length c164_0, .int .i64 0, .int .i64 0, .int .i64 0, .int .i64 0]) ?_ 1 _ rfl; (with_reducible repeat (first | refine blk_drewN ?_ _ | refine blk_drew ?_ | refine blk_alloc ?_ _)); refine blk_put (cs := #[.slice none 0 0, .int .i64 0, .int .i64 0, .int .i64 0, .int .i64 0]) ?_ 0 _ rfl; (with_reducible repeat (first | refine blk_drewN ?_ _ | refine blk_drew ?_ | refine blk_alloc ?_ _)); exact BK165.out⟩, ⟨by repeat (first | (with_reducible first | exact HB.out | apply below_alloc | apply pw_below_drewN | apply below_drew1 | refine below_set ?_ GE159.out | refine below_set ?_ GE163.out | refine below_set ?_ GE165.out) | exact HB.out)⟩⟩
                                        case rest =>
                                          clear HC38
                                          try clear c1
                                          try clear p1
                                          try clear q1
                                          try clear hx1
                                          try clear c2
                                          try clear p2
                                          try clear c3
                                          try clear c4
                                          try clear c4b0
                                          try clear c4b1
                                          try clear p6
                                          try clear c7
                                          try clear c9
                                          try clear c9b0
                                          try clear c10
                                          try clear c10b0
                                          try clear c11
                                          try clear c11b0
                                          try clear c12
                                          try clear c12b0
                                          try clear c12b1
                                          try clear c14
                                          try clear c16
                                          try clear p16
                                          try clear q16
                                          try clear hx16
                                          try clear c17
                                          try clear c20
                                          try clear c20b0
                                          try clear c21
                                          try clear c21b0
                                          try clear c22
                                          try clear c22b0
                                          try clear c25
                                          try clear c27
                                          try clear c27b0
                                          try clear c27b1
                                          try clear c28
                                          try clear c30
                                          try clear c32
                                          try clear c33
                                          try clear c35
                                          try clear c35b0
                                          try clear c36
                                          try clear c36b0
                                          try clear c37
                                          try clear c37b0
                                          try clear c40
                                          try clear c41
                                          try clear c43
                                          try clear c43b0
                                          try clear c43b1
                                          try clear c44
                                          try clear c45
                                          try clear c47
                                          try clear c48
                                          try clear hcz15_0
                                          try clear hcz15_1
                                          try clear hcz18_0
                                          try clear hcz18_1
                                          try clear hcz19_0
                                          try clear hcz19_1
                                          try clear hcz26_0
                                          try clear hcz26_1
                                          try clear hcz26_2
                                          try clear hcz26_3
                                          try clear hcz29_0
                                          try clear hcz29_1
                                          try clear hcz29_2
                                          try clear hcz29_3
                                          try clear hcz31_0
                                          try clear hcz31_1
                                          try clear hcz31_2
                                          try clear hcz31_3
                                          try clear hcz34_0
                                          try clear hcz34_1
                                          try clear hcz34_2
                                          try clear hcz34_3
                                          try clear hcz42_0
                                          try clear hcz42_1
                                          try clear hcz42_2
                                          try clear hcz42_3
                                          try clear hcz42_4
                                          try clear hcz46_0
                                          try clear hcz46_1
                                          try clear hcz46_2
                                          try clear hcz46_3
                                          try clear hcz46_4
                                          try clear hcz49_0
                                          try clear hcz49_1
                                          try clear hcz49_2
                                          try clear hcz49_3
                                          try clear hcz49_4
                                          try clear hcz5_0
                                          try clear hcz5_1
                                          try clear hcz6_0
                                          try clear hcz6_1
                                          try clear hcz8_0
                                          try clear hcz8_1
                                          try clear hfz15_0
                                          try clear hfz15_1
                                          try clear hfz18_0
                                          try clear hfz18_1
                                          try clear hfz19_0
                                          try clear hfz19_1
                                          try clear hfz26_0
                                          try clear hfz26_1
                                          try clear hfz26_2
                                          try clear hfz26_3
                                          try clear hfz29_0
                                          try clear hfz29_1
                                          try clear hfz29_2
                                          try clear hfz29_3
                                          try clear hfz31_0
                                          try clear hfz31_1
                                          try clear hfz31_2
                                          try clear hfz31_3
                                          try clear hfz34_0
                                          try clear hfz34_1
                                          try clear hfz34_2
                                          try clear hfz34_3
                                          try clear hfz42_0
                                          try clear hfz42_1
                                          try clear hfz42_2
                                          try clear hfz42_3
                                          try clear hfz42_4
                                          try clear hfz46_0
                                          try clear hfz46_1
                                          try clear hfz46_2
                                          try clear hfz46_3
                                          try clear hfz46_4
                                          try clear hfz49_0
                                          try clear hfz49_1
                                          try clear hfz49_2
                                          try clear hfz49_3
                                          try clear hfz49_4
                                          try clear hfz5_0
                                          try clear hfz5_1
                                          try clear hfz6_0
                                          try clear hfz6_1
                                          try clear hfz8_0
                                          try clear hfz8_1
                                          try clear hx160_0
                                          try clear hx160_1
                                          try clear hx162_0
                                          try clear hx162_1
                                          try clear hx162_2
                                          try clear hx162_3
                                          try clear hx164_0
                                          try clear hx164_1
                                          try clear hx164_2
                                          try clear hx164_3
                                          try clear hx164_4
                                          try clear p1
                                          try clear p16
                                          try clear p160
                                          try clear p162
                                          try clear p164
                                          try clear p2
                                          try clear p6
                                          try clear q1
                                          try clear q16
                                          try clear q160
                                          try clear q162
                                          try clear q164
                                          obtain ⟨kq, x70_37, rfl, HA, HJ37, BK159, BK163, BK165, HB⟩ := hcut
                                          cases kq with
                                          | zero => exact absurd HA.out (by simp [brazierlaw11_Light.j5])
                                          | succ kj37 =>
                                            have H := HA.out
                                            clear HA
                                            simp only [brazierlaw11_Light.j5] at H
                                            by_cases c50 : x70_37 = true
                                            · subst c50
                                              have H1 : (some false) = some r := by rw [if_pos rfl] at H; exact H
                                              clear H
                                              have H := H1
                                              clear H1
                                              obtain rfl := Option.some.inj H
                                              go_wp2
                                              go_ret
                                              exact ⟨by first | rfl | (simp [errW_none, errW_some] <;> rfl) | (simp [*, errW_none, errW_some] <;> rfl), by repeat (first | (with_reducible first | exact HB.out | apply below_alloc | apply pw_below_drewN | apply below_drew1 | refine below_set ?_ GE159.out | refine below_set ?_ GE163.out | refine below_set ?_ GE165.out) | exact HB.out)⟩
                                            · replace c50 := Bool.eq_false_iff.mpr c50
                                              subst c50
                                              have H1 : (brazierlaw11_Light.l3 kj37 (wrap64 (x5_5 + (((rd_T41 ((rd_T47 l0_1 x37_3).f3) x54_5).f0).length : Int))) l0_1 (l0_1.length : Int) x37_3 ((rd_T47 l0_1 x37_3).f3) (((rd_T47 l0_1 x37_3).f3).length : Int) x54_5 ((rd_T41 ((rd_T47 l0_1 x37_3).f3) x54_5).f0) (((rd_T41 ((rd_T47 l0_1 x37_3).f3) x54_5).f0).length : Int) 0) = some r := by rw [if_neg (show ¬ (false = true) by decide)] at H; exact H
                                              clear H
                                              have H := H1
                                              clear H1
                                              have H' := Aside0.mk H
                                              clear H
                                              have hnb51 := NB165_159.out
                                              have hnc51 := NB159_165.out
                                              have hnb52 := NB165_163.out
                                              have hnc52 := NB163_165.out
                                              have hcz53_0 : wc.cell? ⟨gb165, 0, none⟩ = some (.slice A164_0 ((rd_T41 ((rd_T47 l0_1 x37_3).f3) x54_5).f0).length c164_0) := (blk_cell BK165.out 0).trans rfl
                                              have hcz53_1 : wc.cell? ⟨gb165, 1, none⟩ = some (.int .i64 ((rd_T41 ((rd_T47 l0_1 x37_3).f3) x54_5).f1)) := (blk_cell BK165.out 1).trans rfl
                                              have hcz53_2 : wc.cell? ⟨gb165, 2, none⟩ = some (.int .i64 ((rd_T41 ((rd_T47 l0_1 x37_3).f3) x54_5).f2)) := (blk_cell BK165.out 2).trans rfl
                                              have hcz53_3 : wc.cell? ⟨gb165, 3, none⟩ = some (.int .i64 ((rd_T41 ((rd_T47 l0_1 x37_3).f3) x54_5).f3)) := (blk_cell BK165.out 3).trans rfl
                                              have hcz53_4 : wc.cell? ⟨gb165, 4, none⟩ = some (.int .i64 ((rd_T41 ((rd_T47 l0_1 x37_3).f3) x54_5).f4)) := (blk_cell BK165.out 4).trans rfl
                                              have hfz53_0 := blk_frozen BK165.out 0
                                              have hfz53_1 := blk_frozen BK165.out 1
                                              have hfz53_2 := blk_frozen BK165.out 2
                                              have hfz53_3 := blk_frozen BK165.out 3
                                              have hfz53_4 := blk_frozen BK165.out 4
                                              go_wp2
                                              go_loopg [74] kj37 (fun kq v74 w' => ∃ (x74_7 : Int), v74 = .int .i64 x74_7 ∧ Aside0 (brazierlaw11_Light.l3 kq (wrap64 (x5_5 + (((rd_T41 ((rd_T47 l0_1 x37_3).f3) x54_5).f0).length : Int))) l0_1 (l0_1.length : Int) x37_3 ((rd_T47 l0_1 x37_3).f3) (((rd_T47 l0_1 x37_3).f3).length : Int) x54_5 ((rd_T41 ((rd_T47 l0_1 x37_3).f3) x54_5).f0) (((rd_T41 ((rd_T47 l0_1 x37_3).f3) x54_5).f0).length : Int) x74_7 = some r) ∧ Aside0 (kq ≤ kj37) ∧ Aside0 (w'.heap[gb159]? = some (.cells #[(.slice A0_0 l0_0.length c0_0), (.slice (some ad162) l0_1.length c0_1)] 25 (0, 0))) ∧ Aside0 (w'.heap[gb163]? = some (.cells #[.string ((rd_T47 l0_1 x37_3).f0), .int .i64 ((rd_T47 l0_1 x37_3).f1), .int .i64 ((rd_T47 l0_1 x37_3).f2), (.slice (some ad164) ((rd_T47 l0_1 x37_3).f3).length c162_3)] 47 (0, 0))) ∧ Aside0 (w'.heap[gb165]? = some (.cells #[(.slice A164_0 ((rd_T41 ((rd_T47 l0_1 x37_3).f3) x54_5).f0).length c164_0), .int .i64 ((rd_T41 ((rd_T47 l0_1 x37_3).f3) x54_5).f1), .int .i64 ((rd_T41 ((rd_T47 l0_1 x37_3).f3) x54_5).f2), .int .i64 ((rd_T41 ((rd_T47 l0_1 x37_3).f3) x54_5).f3), .int .i64 ((rd_T41 ((rd_T47 l0_1 x37_3).f3) x54_5).f4)] 41 (0, 0))) ∧ Aside0 (Below w.heap.size w w'))
                                              case atStart => exact ⟨(0), (by first | rfl | (simp; done) | (simp [*]; done)), H', ⟨Nat.le_refl _⟩, ⟨by (with_reducible repeat (first | refine blk_drewN ?_ _ | refine blk_drew ?_ | refine blk_alloc ?_ _)); exact BK159.out⟩, ⟨by (with_reducible repeat (first | refine blk_drewN ?_ _ | refine blk_drew ?_ | refine blk_alloc ?_ _)); exact BK163.out⟩, ⟨by (with_reducible repeat (first | refine blk_drewN ?_ _ | refine blk_drew ?_ | refine blk_alloc ?_ _)); exact BK165.out⟩, ⟨by repeat (first | (with_reducible first | exact HB.out | apply below_alloc | apply pw_below_drewN | apply below_drew1 | refine below_set ?_ GE159.out | refine below_set ?_ GE163.out | refine below_set ?_ GE165.out) | exact HB.out)⟩⟩
                                              case round =>
                                                clear H'
                                                try clear c1
                                                try clear p1
                                                try clear q1
                                                try clear hx1
                                                try clear c2
                                                try clear p2
                                                try clear c3
                                                try clear c4
                                                try clear c4b0
                                                try clear c4b1
                                                try clear c5
                                                try clear p6
                                                try clear c7
                                                try clear c9
                                                try clear c9b0
                                                try clear c10
                                                try clear c10b0
                                                try clear c11
                                                try clear c11b0
                                                try clear c12
                                                try clear c12b0
                                                try clear c12b1
                                                try clear c14
                                                try clear c16
                                                try clear p16
                                                try clear q16
                                                try clear hx16
                                                try clear c17
                                                try clear c20
                                                try clear c20b0
                                                try clear c21
                                                try clear c21b0
                                                try clear c22
                                                try clear c22b0
                                                try clear c25
                                                try clear c27
                                                try clear c27b0
                                                try clear c27b1
                                                try clear c28
                                                try clear c30
                                                try clear c32
                                                try clear c33
                                                try clear c35
                                                try clear c35b0
                                                try clear c36
                                                try clear c36b0
                                                try clear c37
                                                try clear c37b0
                                                try clear c40
                                                try clear c41
                                                try clear c43
                                                try clear c43b0
                                                try clear c43b1
                                                try clear c44
                                                try clear c45
                                                try clear c47
                                                try clear c48
                                                try clear c50
                                                try clear c51
                                                try clear c52
                                                try clear hcz15_0
                                                try clear hcz15_1
                                                try clear hcz18_0
                                                try clear hcz18_1
                                                try clear hcz19_0
                                                try clear hcz19_1
                                                try clear hcz26_0
                                                try clear hcz26_1
                                                try clear hcz26_2
                                                try clear hcz26_3
                                                try clear hcz29_0
                                                try clear hcz29_1
                                                try clear hcz29_2
                                                try clear hcz29_3
                                                try clear hcz31_0
                                                try clear hcz31_1
                                                try clear hcz31_2
                                                try clear hcz31_3
                                                try clear hcz34_0
                                                try clear hcz34_1
                                                try clear hcz34_2
                                                try clear hcz34_3
                                                try clear hcz42_0
                                                try clear hcz42_1
                                                try clear hcz42_2
                                                try clear hcz42_3
                                                try clear hcz42_4
                                                try clear hcz46_0
                                                try clear hcz46_1
                                                try clear hcz46_2
                                                try clear hcz46_3
                                                try clear hcz46_4
                                                try clear hcz49_0
                                                try clear hcz49_1
                                                try clear hcz49_2
                                                try clear hcz49_3
                                                try clear hcz49_4
                                                try clear hcz53_0
                                                try clear hcz53_1
                                                try clear hcz53_2
                                                try clear hcz53_3
                                                try clear hcz53_4
                                                try clear hcz5_0
                                                try clear hcz5_1
                                                try clear hcz6_0
                                                try clear hcz6_1
                                                try clear hcz8_0
                                                try clear hcz8_1
                                                try clear hfz15_0
                                                try clear hfz15_1
                                                try clear hfz18_0
                                                try clear hfz18_1
                                                try clear hfz19_0
                                                try clear hfz19_1
                                                try clear hfz26_0
                                                try clear hfz26_1
                                                try clear hfz26_2
                                                try clear hfz26_3
                                                try clear hfz29_0
                                                try clear hfz29_1
                                                try clear hfz29_2
                                                try clear hfz29_3
                                                try clear hfz31_0
                                                try clear hfz31_1
                                                try clear hfz31_2
                                                try clear hfz31_3
                                                try clear hfz34_0
                                                try clear hfz34_1
                                                try clear hfz34_2
                                                try clear hfz34_3
                                                try clear hfz42_0
                                                try clear hfz42_1
                                                try clear hfz42_2
                                                try clear hfz42_3
                                                try clear hfz42_4
                                                try clear hfz46_0
                                                try clear hfz46_1
                                                try clear hfz46_2
                                                try clear hfz46_3
                                                try clear hfz46_4
                                                try clear hfz49_0
                                                try clear hfz49_1
                                                try clear hfz49_2
                                                try clear hfz49_3
                                                try clear hfz49_4
                                                try clear hfz53_0
                                                try clear hfz53_1
                                                try clear hfz53_2
                                                try clear hfz53_3
                                                try clear hfz53_4
                                                try clear hfz5_0
                                                try clear hfz5_1
                                                try clear hfz6_0
                                                try clear hfz6_1
                                                try clear hfz8_0
                                                try clear hfz8_1
                                                try clear hx160_0
                                                try clear hx160_1
                                                try clear hx162_0
                                                try clear hx162_1
                                                try clear hx162_2
                                                try clear hx162_3
                                                try clear hx164_0
                                                try clear hx164_1
                                                try clear hx164_2
                                                try clear hx164_3
                                                try clear hx164_4
                                                try clear p1
                                                try clear p16
                                                try clear p160
                                                try clear p162
                                                try clear p164
                                                try clear p2
                                                try clear p6
                                                try clear q1
                                                try clear q16
                                                try clear q160
                                                try clear q162
                                                try clear q164
                                                obtain ⟨x74_7, rfl, HA, HK7, BK159, BK163, BK165, HB⟩ := hrel
                                                cases gk with
                                                | zero => exact absurd HA.out (by simp [brazierlaw11_Light.l3])
                                                | succ k7 =>
                                                  have H := HA.out
                                                  clear HA
                                                  simp only [brazierlaw11_Light.l3] at H
                                                  by_cases c54 : x74_7 < (((rd_T41 ((rd_T47 l0_1 x37_3).f3) x54_5).f0).length : Int)
                                                  · rw [if_pos c54] at H
                                                    have c54b0 : decide (x74_7 < (((rd_T41 ((rd_T47 l0_1 x37_3).f3) x54_5).f0).length : Int)) = true := decide_eq_true c54
                                                    clear c54
                                                    by_cases c55 : 0 ≤ x74_7
                                                    · rw [if_pos c55] at H
                                                      have c55b0 : decide (0 ≤ x74_7) = true := decide_eq_true c55
                                                      clear c55
                                                      by_cases c56 : x74_7 < (((rd_T41 ((rd_T47 l0_1 x37_3).f3) x54_5).f0).length : Int)
                                                      · rw [if_pos c56] at H
                                                        have c56b0 : decide (x74_7 < (((rd_T41 ((rd_T47 l0_1 x37_3).f3) x54_5).f0).length : Int)) = true := decide_eq_true c56
                                                        clear c56
                                                        by_cases c57 : (((rd_T44 ((rd_T41 ((rd_T47 l0_1 x37_3).f3) x54_5).f0) x74_7).f6).size : Int) > 100
                                                        · rw [if_pos c57] at H
                                                          have c57b0 : decide (100 < (((rd_T44 ((rd_T41 ((rd_T47 l0_1 x37_3).f3) x54_5).f0) x74_7).f6).size : Int)) = true := decide_eq_true c57
                                                          have c57b1 : decide (100 < ((rd_T44 ((rd_T41 ((rd_T47 l0_1 x37_3).f3) x54_5).f0) x74_7).f6).size) = true := decide_eq_true (by omega)
                                                          clear c57
                                                          obtain rfl := Option.some.inj H
                                                          have p166 : 0 ≤ (x74_7 : Int) := of_decide_eq_true (by first | (with_reducible assumption) | assumption)
                                                          have q166 : x74_7 < (((rd_T41 ((rd_T47 l0_1 x37_3).f3) x54_5).f0).length : Int) := of_decide_eq_true (by first | (with_reducible assumption) | assumption)
                                                          obtain ⟨ad166, A166_7, c166_7, e166, hx166_0, hx166_1, hx166_2, hx166_3, hx166_4, hx166_5, hx166_6, hx166_7, hl166_7, hi166_7⟩ := at_T44 HR164_0.out x74_7 p166 q166
                                                          cases e166
                                                          replace hx166_0 := (HB.out.cell (World.block_lt_of_cell? w _ hx166_0)).trans hx166_0
                                                          replace hx166_1 := (HB.out.cell (World.block_lt_of_cell? w _ hx166_1)).trans hx166_1
                                                          replace hx166_2 := (HB.out.cell (World.block_lt_of_cell? w _ hx166_2)).trans hx166_2
                                                          replace hx166_3 := (HB.out.cell (World.block_lt_of_cell? w _ hx166_3)).trans hx166_3
                                                          replace hx166_4 := (HB.out.cell (World.block_lt_of_cell? w _ hx166_4)).trans hx166_4
                                                          replace hx166_5 := (HB.out.cell (World.block_lt_of_cell? w _ hx166_5)).trans hx166_5
                                                          replace hx166_6 := (HB.out.cell (World.block_lt_of_cell? w _ hx166_6)).trans hx166_6
                                                          replace hx166_7 := (HB.out.cell (World.block_lt_of_cell? w _ hx166_7)).trans hx166_7
                                                          have HR166_7 := Aside0.mk hi166_7
                                                          have HC166_7 := Aside0.mk hl166_7
                                                          clear hi166_7 hl166_7
                                                          replace p166 := eq_true p166
                                                          replace q166 := eq_true q166
                                                          go_wp2_with (first | ((with_reducible refine gate_dst (N := 11) rfl ?_); (try (refine gate_guard (by rfl) ?_; dsimp only)); refine box_event ?hg (N := 11) ?hd (cs := #[.int .i64 0, .int .i64 0, .int .i64 0, .int .i64 0, .int .i64 0, .int .i32 0, .string (⟨#[]⟩ : ByteArray), .slice none 0 0]) (t := 44) ?hr ?_; (case hd => rfl); (case hg => rfl); (case hr => first | (go_simp; done) | (go_simp; rfl)); intro gb167 hg w58 hbox hb; have n0_ := Aside0.mk (blk_below (g := gb159) (o := .cells #[.slice A0_0 l0_0.length c0_0, .slice (some ad162) l0_1.length c0_1] 25 (0, 0)) (by (with_reducible repeat (first | refine blk_drewN ?_ _ | refine blk_drew ?_ | refine blk_alloc ?_ _)); exact BK159.out) hb); have n1_ := Aside0.mk (blk_below (g := gb163) (o := .cells #[.string ((rd_T47 l0_1 x37_3).f0), .int .i64 ((rd_T47 l0_1 x37_3).f1), .int .i64 ((rd_T47 l0_1 x37_3).f2), .slice (some ad164) ((rd_T47 l0_1 x37_3).f3).length c162_3] 47 (0, 0)) (by (with_reducible repeat (first | refine blk_drewN ?_ _ | refine blk_drew ?_ | refine blk_alloc ?_ _)); exact BK163.out) hb); have n2_ := Aside0.mk (blk_below (g := gb165) (o := .cells #[.slice (some ad166) ((rd_T41 ((rd_T47 l0_1 x37_3).f3) x54_5).f0).length c164_0, .int .i64 ((rd_T41 ((rd_T47 l0_1 x37_3).f3) x54_5).f1), .int .i64 ((rd_T41 ((rd_T47 l0_1 x37_3).f3) x54_5).f2), .int .i64 ((rd_T41 ((rd_T47 l0_1 x37_3).f3) x54_5).f3), .int .i64 ((rd_T41 ((rd_T47 l0_1 x37_3).f3) x54_5).f4)] 41 (0, 0)) (by (with_reducible repeat (first | refine blk_drewN ?_ _ | refine blk_drew ?_ | refine blk_alloc ?_ _)); exact BK165.out) hb); have n3_ := Aside0.mk (below_step (by repeat (first | (with_reducible first | exact HB.out | apply below_alloc | apply pw_below_drewN | apply below_drew1 | refine below_set ?_ GE159.out | refine below_set ?_ GE163.out | refine below_set ?_ GE165.out) | exact HB.out)) hb); have n4_ := Aside0.mk (hbox); have n5_ := Aside0.mk ((by rw [hg]; exact (below_size (by repeat (first | (with_reducible first | exact HB.out | apply below_alloc | apply pw_below_drewN | apply below_drew1 | refine below_set ?_ GE159.out | refine below_set ?_ GE163.out | refine below_set ?_ GE165.out) | exact HB.out))) : w.heap.size ≤ gb167)); have n6_ := Aside0.mk ((by rw [hg]; exact (below_size (by repeat (first | (with_reducible first | exact HB.out | apply below_alloc | apply pw_below_drewN | apply below_drew1 | refine below_set ?_ GE159.out | refine below_set ?_ GE163.out | refine below_set ?_ GE165.out) | exact HB.out))) : w.heap.size ≤ gb167)); have n7_ := Aside0.mk ((by rw [hg]; exact Nat.ne_of_lt (blk_lt (g := gb159) (o := .cells #[.slice A0_0 l0_0.length c0_0, .slice (some ad162) l0_1.length c0_1] 25 (0, 0)) (by (with_reducible repeat (first | refine blk_drewN ?_ _ | refine blk_drew ?_ | refine blk_alloc ?_ _)); exact BK159.out)) : gb159 ≠ gb167)); have n8_ := Aside0.mk ((by rw [hg]; exact Nat.ne_of_gt (blk_lt (g := gb159) (o := .cells #[.slice A0_0 l0_0.length c0_0, .slice (some ad162) l0_1.length c0_1] 25 (0, 0)) (by (with_reducible repeat (first | refine blk_drewN ?_ _ | refine blk_drew ?_ | refine blk_alloc ?_ _)); exact BK159.out)) : gb167 ≠ gb159)); have n9_ := Aside0.mk ((by rw [hg]; exact Nat.ne_of_lt (blk_lt (g := gb163) (o := .cells #[.string ((rd_T47 l0_1 x37_3).f0), .int .i64 ((rd_T47 l0_1 x37_3).f1), .int .i64 ((rd_T47 l0_1 x37_3).f2), .slice (some ad164) ((rd_T47 l0_1 x37_3).f3).length c162_3] 47 (0, 0)) (by (with_reducible repeat (first | refine blk_drewN ?_ _ | refine blk_drew ?_ | refine blk_alloc ?_ _)); exact BK163.out)) : gb163 ≠ gb167)); have n10_ := Aside0.mk ((by rw [hg]; exact Nat.ne_of_gt (blk_lt (g := gb163) (o := .cells #[.string ((rd_T47 l0_1 x37_3).f0), .int .i64 ((rd_T47 l0_1 x37_3).f1), .int .i64 ((rd_T47 l0_1 x37_3).f2), .slice (some ad164) ((rd_T47 l0_1 x37_3).f3).length c162_3] 47 (0, 0)) (by (with_reducible repeat (first | refine blk_drewN ?_ _ | refine blk_drew ?_ | refine blk_alloc ?_ _)); exact BK163.out)) : gb167 ≠ gb163)); have n11_ := Aside0.mk ((by rw [hg]; exact Nat.ne_of_lt (blk_lt (g := gb165) (o := .cells #[.slice (some ad166) ((rd_T41 ((rd_T47 l0_1 x37_3).f3) x54_5).f0).length c164_0, .int .i64 ((rd_T41 ((rd_T47 l0_1 x37_3).f3) x54_5).f1), .int .i64 ((rd_T41 ((rd_T47 l0_1 x37_3).f3) x54_5).f2), .int .i64 ((rd_T41 ((rd_T47 l0_1 x37_3).f3) x54_5).f3), .int .i64 ((rd_T41 ((rd_T47 l0_1 x37_3).f3) x54_5).f4)] 41 (0, 0)) (by (with_reducible repeat (first | refine blk_drewN ?_ _ | refine blk_drew ?_ | refine blk_alloc ?_ _)); exact BK165.out)) : gb165 ≠ gb167)); have n12_ := Aside0.mk ((by rw [hg]; exact Nat.ne_of_gt (blk_lt (g := gb165) (o := .cells #[.slice (some ad166) ((rd_T41 ((rd_T47 l0_1 x37_3).f3) x54_5).f0).length c164_0, .int .i64 ((rd_T41 ((rd_T47 l0_1 x37_3).f3) x54_5).f1), .int .i64 ((rd_T41 ((rd_T47 l0_1 x37_3).f3) x54_5).f2), .int .i64 ((rd_T41 ((rd_T47 l0_1 x37_3).f3) x54_5).f3), .int .i64 ((rd_T41 ((rd_T47 l0_1 x37_3).f3) x54_5).f4)] 41 (0, 0)) (by (with_reducible repeat (first | refine blk_drewN ?_ _ | refine blk_drew ?_ | refine blk_alloc ?_ _)); exact BK165.out)) : gb167 ≠ gb165)); clear BK159; clear BK163; clear BK165; clear HB; have BK159 := n0_; have BK163 := n1_; have BK165 := n2_; have HB := n3_; have BK167 := n4_; have GW167 := n5_; have GE167 := n6_; have NB159_167 := n7_; have NB167_159 := n8_; have NB163_167 := n9_; have NB167_163 := n10_; have NB165_167 := n11_; have NB167_165 := n12_; clear n0_ n1_ n2_ n3_ n4_ n5_ n6_ n7_ n8_ n9_ n10_ n11_ n12_; clear hb hbox hg; have hnb59 := NB167_159.out; have hnc59 := NB159_167.out; have hnb60 := NB167_163.out; have hnc60 := NB163_167.out; have hnb61 := NB167_165.out; have hnc61 := NB165_167.out; have hcz62_0 : w58.cell? ⟨gb167, 0, none⟩ = some (.int .i64 0) := (blk_cell BK167.out 0).trans rfl; have hcz62_1 : w58.cell? ⟨gb167, 1, none⟩ = some (.int .i64 0) := (blk_cell BK167.out 1).trans rfl; have hcz62_2 : w58.cell? ⟨gb167, 2, none⟩ = some (.int .i64 0) := (blk_cell BK167.out 2).trans rfl; have hcz62_3 : w58.cell? ⟨gb167, 3, none⟩ = some (.int .i64 0) := (blk_cell BK167.out 3).trans rfl; have hcz62_4 : w58.cell? ⟨gb167, 4, none⟩ = some (.int .i64 0) := (blk_cell BK167.out 4).trans rfl; have hcz62_5 : w58.cell? ⟨gb167, 5, none⟩ = some (.int .i32 0) := (blk_cell BK167.out 5).trans rfl; have hcz62_6 : w58.cell? ⟨gb167, 6, none⟩ = some (.string (⟨#[]⟩ : ByteArray)) := (blk_cell BK167.out 6).trans rfl; have hcz62_7 : w58.cell? ⟨gb167, 7, none⟩ = some (.slice none 0 0) := (blk_cell BK167.out 7).trans rfl; have hfz62_0 := blk_frozen BK167.out 0; have hfz62_1 := blk_frozen BK167.out 1; have hfz62_2 := blk_frozen BK167.out 2; have hfz62_3 := blk_frozen BK167.out 3; have hfz62_4 := blk_frozen BK167.out 4; have hfz62_5 := blk_frozen BK167.out 5; have hfz62_6 := blk_frozen BK167.out 6; have hfz62_7 := blk_frozen BK167.out 7))
                                                          go_ret
                                                          exact ⟨by first | rfl | (simp [errW_none, errW_some] <;> rfl) | (simp [*, errW_none, errW_some] <;> rfl), by repeat (first | (with_reducible first | exact HB.out | apply below_alloc | apply pw_below_drewN | apply below_drew1 | refine below_set ?_ GE159.out | refine below_set ?_ GE163.out | refine below_set ?_ GE165.out | refine below_set ?_ GE167.out) | exact HB.out)⟩
                                                        · rw [if_neg c57] at H
                                                          have c57b0 : decide (100 < (((rd_T44 ((rd_T41 ((rd_T47 l0_1 x37_3).f3) x54_5).f0) x74_7).f6).size : Int)) = false := decide_eq_false c57
                                                          have c57b1 : decide (100 < ((rd_T44 ((rd_T41 ((rd_T47 l0_1 x37_3).f3) x54_5).f0) x74_7).f6).size) = false := decide_eq_false (by omega)
                                                          clear c57
                                                          by_cases c63 : (((rd_T44 ((rd_T41 ((rd_T47 l0_1 x37_3).f3) x54_5).f0) x74_7).f7).length : Int) > 20
                                                          · rw [if_pos c63] at H
                                                            have c63b0 : decide (20 < (((rd_T44 ((rd_T41 ((rd_T47 l0_1 x37_3).f3) x54_5).f0) x74_7).f7).length : Int)) = true := decide_eq_true c63
                                                            have c63b1 : decide (20 < ((rd_T44 ((rd_T41 ((rd_T47 l0_1 x37_3).f3) x54_5).f0) x74_7).f7).length) = true := decide_eq_true (by omega)
                                                            clear c63
                                                            obtain rfl := Option.some.inj H
                                                            have p166 : 0 ≤ (x74_7 : Int) := of_decide_eq_true (by first | (with_reducible assumption) | assumption)
                                                            have q166 : x74_7 < (((rd_T41 ((rd_T47 l0_1 x37_3).f3) x54_5).f0).length : Int) := of_decide_eq_true (by first | (with_reducible assumption) | assumption)
                                                            obtain ⟨ad166, A166_7, c166_7, e166, hx166_0, hx166_1, hx166_2, hx166_3, hx166_4, hx166_5, hx166_6, hx166_7, hl166_7, hi166_7⟩ := at_T44 HR164_0.out x74_7 p166 q166
                                                            cases e166
                                                            replace hx166_0 := (HB.out.cell (World.block_lt_of_cell? w _ hx166_0)).trans hx166_0
                                                            replace hx166_1 := (HB.out.cell (World.block_lt_of_cell? w _ hx166_1)).trans hx166_1
                                                            replace hx166_2 := (HB.out.cell (World.block_lt_of_cell? w _ hx166_2)).trans hx166_2
                                                            replace hx166_3 := (HB.out.cell (World.block_lt_of_cell? w _ hx166_3)).trans hx166_3
                                                            replace hx166_4 := (HB.out.cell (World.block_lt_of_cell? w _ hx166_4)).trans hx166_4
                                                            replace hx166_5 := (HB.out.cell (World.block_lt_of_cell? w _ hx166_5)).trans hx166_5
                                                            replace hx166_6 := (HB.out.cell (World.block_lt_of_cell? w _ hx166_6)).trans hx166_6
                                                            replace hx166_7 := (HB.out.cell (World.block_lt_of_cell? w _ hx166_7)).trans hx166_7
                                                            have HR166_7 := Aside0.mk hi166_7
                                                            have HC166_7 := Aside0.mk hl166_7
                                                            clear hi166_7 hl166_7
                                                            replace p166 := eq_true p166
                                                            replace q166 := eq_true q166
                                                            go_wp2_with (first | ((with_reducible refine gate_dst (N := 11) rfl ?_); (try (refine gate_guard (by rfl) ?_; dsimp only)); refine box_event ?hg (N := 11) ?hd (cs := #[.int .i64 0, .int .i64 0, .int .i64 0, .int .i64 0, .int .i64 0, .int .i32 0, .string (⟨#[]⟩ : ByteArray), .slice none 0 0]) (t := 44) ?hr ?_; (case hd => rfl); (case hg => rfl); (case hr => first | (go_simp; done) | (go_simp; rfl)); intro gb167 hg w64 hbox hb; have n0_ := Aside0.mk (blk_below (g := gb159) (o := .cells #[.slice A0_0 l0_0.length c0_0, .slice (some ad162) l0_1.length c0_1] 25 (0, 0)) (by (with_reducible repeat (first | refine blk_drewN ?_ _ | refine blk_drew ?_ | refine blk_alloc ?_ _)); exact BK159.out) hb); have n1_ := Aside0.mk (blk_below (g := gb163) (o := .cells #[.string ((rd_T47 l0_1 x37_3).f0), .int .i64 ((rd_T47 l0_1 x37_3).f1), .int .i64 ((rd_T47 l0_1 x37_3).f2), .slice (some ad164) ((rd_T47 l0_1 x37_3).f3).length c162_3] 47 (0, 0)) (by (with_reducible repeat (first | refine blk_drewN ?_ _ | refine blk_drew ?_ | refine blk_alloc ?_ _)); exact BK163.out) hb); have n2_ := Aside0.mk (blk_below (g := gb165) (o := .cells #[.slice (some ad166) ((rd_T41 ((rd_T47 l0_1 x37_3).f3) x54_5).f0).length c164_0, .int .i64 ((rd_T41 ((rd_T47 l0_1 x37_3).f3) x54_5).f1), .int .i64 ((rd_T41 ((rd_T47 l0_1 x37_3).f3) x54_5).f2), .int .i64 ((rd_T41 ((rd_T47 l0_1 x37_3).f3) x54_5).f3), .int .i64 ((rd_T41 ((rd_T47 l0_1 x37_3).f3) x54_5).f4)] 41 (0, 0)) (by (with_reducible repeat (first | refine blk_drewN ?_ _ | refine blk_drew ?_ | refine blk_alloc ?_ _)); exact BK165.out) hb); have n3_ := Aside0.mk (below_step (by repeat (first | (with_reducible first | exact HB.out | apply below_alloc | apply pw_below_drewN | apply below_drew1 | refine below_set ?_ GE159.out | refine below_set ?_ GE163.out | refine below_set ?_ GE165.out) | exact HB.out)) hb); have n4_ := Aside0.mk (hbox); have n5_ := Aside0.mk ((by rw [hg]; exact (below_size (by repeat (first | (with_reducible first | exact HB.out | apply below_alloc | apply pw_below_drewN | apply below_drew1 | refine below_set ?_ GE159.out | refine below_set ?_ GE163.out | refine below_set ?_ GE165.out) | exact HB.out))) : w.heap.size ≤ gb167)); have n6_ := Aside0.mk ((by rw [hg]; exact (below_size (by repeat (first | (with_reducible first | exact HB.out | apply below_alloc | apply pw_below_drewN | apply below_drew1 | refine below_set ?_ GE159.out | refine below_set ?_ GE163.out | refine below_set ?_ GE165.out) | exact HB.out))) : w.heap.size ≤ gb167)); have n7_ := Aside0.mk ((by rw [hg]; exact Nat.ne_of_lt (blk_lt (g := gb159) (o := .cells #[.slice A0_0 l0_0.length c0_0, .slice (some ad162) l0_1.length c0_1] 25 (0, 0)) (by (with_reducible repeat (first | refine blk_drewN ?_ _ | refine blk_drew ?_ | refine blk_alloc ?_ _)); exact BK159.out)) : gb159 ≠ gb167)); have n8_ := Aside0.mk ((by rw [hg]; exact Nat.ne_of_gt (blk_lt (g := gb159) (o := .cells #[.slice A0_0 l0_0.length c0_0, .slice (some ad162) l0_1.length c0_1] 25 (0, 0)) (by (with_reducible repeat (first | refine blk_drewN ?_ _ | refine blk_drew ?_ | refine blk_alloc ?_ _)); exact BK159.out)) : gb167 ≠ gb159)); have n9_ := Aside0.mk ((by rw [hg]; exact Nat.ne_of_lt (blk_lt (g := gb163) (o := .cells #[.string ((rd_T47 l0_1 x37_3).f0), .int .i64 ((rd_T47 l0_1 x37_3).f1), .int .i64 ((rd_T47 l0_1 x37_3).f2), .slice (some ad164) ((rd_T47 l0_1 x37_3).f3).length c162_3] 47 (0, 0)) (by (with_reducible repeat (first | refine blk_drewN ?_ _ | refine blk_drew ?_ | refine blk_alloc ?_ _)); exact BK163.out)) : gb163 ≠ gb167)); have n10_ := Aside0.mk ((by rw [hg]; exact Nat.ne_of_gt (blk_lt (g := gb163) (o := .cells #[.string ((rd_T47 l0_1 x37_3).f0), .int .i64 ((rd_T47 l0_1 x37_3).f1), .int .i64 ((rd_T47 l0_1 x37_3).f2), .slice (some ad164) ((rd_T47 l0_1 x37_3).f3).length c162_3] 47 (0, 0)) (by (with_reducible repeat (first | refine blk_drewN ?_ _ | refine blk_drew ?_ | refine blk_alloc ?_ _)); exact BK163.out)) : gb167 ≠ gb163)); have n11_ := Aside0.mk ((by rw [hg]; exact Nat.ne_of_lt (blk_lt (g := gb165) (o := .cells #[.slice (some ad166) ((rd_T41 ((rd_T47 l0_1 x37_3).f3) x54_5).f0).length c164_0, .int .i64 ((rd_T41 ((rd_T47 l0_1 x37_3).f3) x54_5).f1), .int .i64 ((rd_T41 ((rd_T47 l0_1 x37_3).f3) x54_5).f2), .int .i64 ((rd_T41 ((rd_T47 l0_1 x37_3).f3) x54_5).f3), .int .i64 ((rd_T41 ((rd_T47 l0_1 x37_3).f3) x54_5).f4)] 41 (0, 0)) (by (with_reducible repeat (first | refine blk_drewN ?_ _ | refine blk_drew ?_ | refine blk_alloc ?_ _)); exact BK165.out)) : gb165 ≠ gb167)); have n12_ := Aside0.mk ((by rw [hg]; exact Nat.ne_of_gt (blk_lt (g := gb165) (o := .cells #[.slice (some ad166) ((rd_T41 ((rd_T47 l0_1 x37_3).f3) x54_5).f0).length c164_0, .int .i64 ((rd_T41 ((rd_T47 l0_1 x37_3).f3) x54_5).f1), .int .i64 ((rd_T41 ((rd_T47 l0_1 x37_3).f3) x54_5).f2), .int .i64 ((rd_T41 ((rd_T47 l0_1 x37_3).f3) x54_5).f3), .int .i64 ((rd_T41 ((rd_T47 l0_1 x37_3).f3) x54_5).f4)] 41 (0, 0)) (by (with_reducible repeat (first | refine blk_drewN ?_ _ | refine blk_drew ?_ | refine blk_alloc ?_ _)); exact BK165.out)) : gb167 ≠ gb165)); clear BK159; clear BK163; clear BK165; clear HB; have BK159 := n0_; have BK163 := n1_; have BK165 := n2_; have HB := n3_; have BK167 := n4_; have GW167 := n5_; have GE167 := n6_; have NB159_167 := n7_; have NB167_159 := n8_; have NB163_167 := n9_; have NB167_163 := n10_; have NB165_167 := n11_; have NB167_165 := n12_; clear n0_ n1_ n2_ n3_ n4_ n5_ n6_ n7_ n8_ n9_ n10_ n11_ n12_; clear hb hbox hg; have hnb65 := NB167_159.out; have hnc65 := NB159_167.out; have hnb66 := NB167_163.out; have hnc66 := NB163_167.out; have hnb67 := NB167_165.out; have hnc67 := NB165_167.out; have hcz68_0 : w64.cell? ⟨gb167, 0, none⟩ = some (.int .i64 0) := (blk_cell BK167.out 0).trans rfl; have hcz68_1 : w64.cell? ⟨gb167, 1, none⟩ = some (.int .i64 0) := (blk_cell BK167.out 1).trans rfl; have hcz68_2 : w64.cell? ⟨gb167, 2, none⟩ = some (.int .i64 0) := (blk_cell BK167.out 2).trans rfl; have hcz68_3 : w64.cell? ⟨gb167, 3, none⟩ = some (.int .i64 0) := (blk_cell BK167.out 3).trans rfl; have hcz68_4 : w64.cell? ⟨gb167, 4, none⟩ = some (.int .i64 0) := (blk_cell BK167.out 4).trans rfl; have hcz68_5 : w64.cell? ⟨gb167, 5, none⟩ = some (.int .i32 0) := (blk_cell BK167.out 5).trans rfl; have hcz68_6 : w64.cell? ⟨gb167, 6, none⟩ = some (.string (⟨#[]⟩ : ByteArray)) := (blk_cell BK167.out 6).trans rfl; have hcz68_7 : w64.cell? ⟨gb167, 7, none⟩ = some (.slice none 0 0) := (blk_cell BK167.out 7).trans rfl; have hfz68_0 := blk_frozen BK167.out 0; have hfz68_1 := blk_frozen BK167.out 1; have hfz68_2 := blk_frozen BK167.out 2; have hfz68_3 := blk_frozen BK167.out 3; have hfz68_4 := blk_frozen BK167.out 4; have hfz68_5 := blk_frozen BK167.out 5; have hfz68_6 := blk_frozen BK167.out 6; have hfz68_7 := blk_frozen BK167.out 7))
                                                            go_ret
                                                            exact ⟨by first | rfl | (simp [errW_none, errW_some] <;> rfl) | (simp [*, errW_none, errW_some] <;> rfl), by repeat (first | (with_reducible first | exact HB.out | apply below_alloc | apply pw_below_drewN | apply below_drew1 | refine below_set ?_ GE159.out | refine below_set ?_ GE163.out | refine below_set ?_ GE165.out | refine below_set ?_ GE167.out) | exact HB.out)⟩
                                                          · rw [if_neg c63] at H
                                                            have c63b0 : decide (20 < (((rd_T44 ((rd_T41 ((rd_T47 l0_1 x37_3).f3) x54_5).f0) x74_7).f7).length : Int)) = false := decide_eq_false c63
                                                            have c63b1 : decide (20 < ((rd_T44 ((rd_T41 ((rd_T47 l0_1 x37_3).f3) x54_5).f0) x74_7).f7).length) = false := decide_eq_false (by omega)
                                                            clear c63
                                                            have H' := Aside0.mk H
                                                            clear H
                                                            have p166 : 0 ≤ (x74_7 : Int) := of_decide_eq_true (by first | (with_reducible assumption) | assumption)
                                                            have q166 : x74_7 < (((rd_T41 ((rd_T47 l0_1 x37_3).f3) x54_5).f0).length : Int) := of_decide_eq_true (by first | (with_reducible assumption) | assumption)
                                                            obtain ⟨ad166, A166_7, c166_7, e166, hx166_0, hx166_1, hx166_2, hx166_3, hx166_4, hx166_5, hx166_6, hx166_7, hl166_7, hi166_7⟩ := at_T44 HR164_0.out x74_7 p166 q166
                                                            cases e166
                                                            replace hx166_0 := (HB.out.cell (World.block_lt_of_cell? w _ hx166_0)).trans hx166_0
                                                            replace hx166_1 := (HB.out.cell (World.block_lt_of_cell? w _ hx166_1)).trans hx166_1
                                                            replace hx166_2 := (HB.out.cell (World.block_lt_of_cell? w _ hx166_2)).trans hx166_2
                                                            replace hx166_3 := (HB.out.cell (World.block_lt_of_cell? w _ hx166_3)).trans hx166_3
                                                            replace hx166_4 := (HB.out.cell (World.block_lt_of_cell? w _ hx166_4)).trans hx166_4
                                                            replace hx166_5 := (HB.out.cell (World.block_lt_of_cell? w _ hx166_5)).trans hx166_5
                                                            replace hx166_6 := (HB.out.cell (World.block_lt_of_cell? w _ hx166_6)).trans hx166_6
                                                            replace hx166_7 := (HB.out.cell (World.block_lt_of_cell? w _ hx166_7)).trans hx166_7
                                                            have HR166_7 := Aside0.mk hi166_7
                                                            have HC166_7 := Aside0.mk hl166_7
                                                            clear hi166_7 hl166_7
                                                            replace p166 := eq_true p166
                                                            replace q166 := eq_true q166
                                                            go_wp2_with (first | ((with_reducible refine gate_dst (N := 11) rfl ?_); (try (refine gate_guard (by rfl) ?_; dsimp only)); refine box_event ?hg (N := 11) ?hd (cs := #[.int .i64 0, .int .i64 0, .int .i64 0, .int .i64 0, .int .i64 0, .int .i32 0, .string (⟨#[]⟩ : ByteArray), .slice none 0 0]) (t := 44) ?hr ?_; (case hd => rfl); (case hg => rfl); (case hr => first | (go_simp; done) | (go_simp; rfl)); intro gb167 hg w69 hbox hb; have n0_ := Aside0.mk (blk_below (g := gb159) (o := .cells #[.slice A0_0 l0_0.length c0_0, .slice (some ad162) l0_1.length c0_1] 25 (0, 0)) (by (with_reducible repeat (first | refine blk_drewN ?_ _ | refine blk_drew ?_ | refine blk_alloc ?_ _)); exact BK159.out) hb); have n1_ := Aside0.mk (blk_below (g := gb163) (o := .cells #[.string ((rd_T47 l0_1 x37_3).f0), .int .i64 ((rd_T47 l0_1 x37_3).f1), .int .i64 ((rd_T47 l0_1 x37_3).f2), .slice (some ad164) ((rd_T47 l0_1 x37_3).f3).length c162_3] 47 (0, 0)) (by (with_reducible repeat (first | refine blk_drewN ?_ _ | refine blk_drew ?_ | refine blk_alloc ?_ _)); exact BK163.out) hb); have n2_ := Aside0.mk (blk_below (g := gb165) (o := .cells #[.slice (some ad166) ((rd_T41 ((rd_T47 l0_1 x37_3).f3) x54_5).f0).length c164_0, .int .i64 ((rd_T41 ((rd_T47 l0_1 x37_3).f3) x54_5).f1), .int .i64 ((rd_T41 ((rd_T47 l0_1 x37_3).f3) x54_5).f2), .int .i64 ((rd_T41 ((rd_T47 l0_1 x37_3).f3) x54_5).f3), .int .i64 ((rd_T41 ((rd_T47 l0_1 x37_3).f3) x54_5).f4)] 41 (0, 0)) (by (with_reducible repeat (first | refine blk_drewN ?_ _ | refine blk_drew ?_ | refine blk_alloc ?_ _)); exact BK165.out) hb); have n3_ := Aside0.mk (below_step (by repeat (first | (with_reducible first | exact HB.out | apply below_alloc | apply pw_below_drewN | apply below_drew1 | refine below_set ?_ GE159.out | refine below_set ?_ GE163.out | refine below_set ?_ GE165.out) | exact HB.out)) hb); have n4_ := Aside0.mk (hbox); have n5_ := Aside0.mk ((by rw [hg]; exact (below_size (by repeat (first | (with_reducible first | exact HB.out | apply below_alloc | apply pw_below_drewN | apply below_drew1 | refine below_set ?_ GE159.out | refine below_set ?_ GE163.out | refine below_set ?_ GE165.out) | exact HB.out))) : w.heap.size ≤ gb167)); have n6_ := Aside0.mk ((by rw [hg]; exact (below_size (by repeat (first | (with_reducible first | exact HB.out | apply below_alloc | apply pw_below_drewN | apply below_drew1 | refine below_set ?_ GE159.out | refine below_set ?_ GE163.out | refine below_set ?_ GE165.out) | exact HB.out))) : w.heap.size ≤ gb167)); have n7_ := Aside0.mk ((by rw [hg]; exact Nat.ne_of_lt (blk_lt (g := gb159) (o := .cells #[.slice A0_0 l0_0.length c0_0, .slice (some ad162) l0_1.length c0_1] 25 (0, 0)) (by (with_reducible repeat (first | refine blk_drewN ?_ _ | refine blk_drew ?_ | refine blk_alloc ?_ _)); exact BK159.out)) : gb159 ≠ gb167)); have n8_ := Aside0.mk ((by rw [hg]; exact Nat.ne_of_gt (blk_lt (g := gb159) (o := .cells #[.slice A0_0 l0_0.length c0_0, .slice (some ad162) l0_1.length c0_1] 25 (0, 0)) (by (with_reducible repeat (first | refine blk_drewN ?_ _ | refine blk_drew ?_ | refine blk_alloc ?_ _)); exact BK159.out)) : gb167 ≠ gb159)); have n9_ := Aside0.mk ((by rw [hg]; exact Nat.ne_of_lt (blk_lt (g := gb163) (o := .cells #[.string ((rd_T47 l0_1 x37_3).f0), .int .i64 ((rd_T47 l0_1 x37_3).f1), .int .i64 ((rd_T47 l0_1 x37_3).f2), .slice (some ad164) ((rd_T47 l0_1 x37_3).f3).length c162_3] 47 (0, 0)) (by (with_reducible repeat (first | refine blk_drewN ?_ _ | refine blk_drew ?_ | refine blk_alloc ?_ _)); exact BK163.out)) : gb163 ≠ gb167)); have n10_ := Aside0.mk ((by rw [hg]; exact Nat.ne_of_gt (blk_lt (g := gb163) (o := .cells #[.string ((rd_T47 l0_1 x37_3).f0), .int .i64 ((rd_T47 l0_1 x37_3).f1), .int .i64 ((rd_T47 l0_1 x37_3).f2), .slice (some ad164) ((rd_T47 l0_1 x37_3).f3).length c162_3] 47 (0, 0)) (by (with_reducible repeat (first | refine blk_drewN ?_ _ | refine blk_drew ?_ | refine blk_alloc ?_ _)); exact BK163.out)) : gb167 ≠ gb163)); have n11_ := Aside0.mk ((by rw [hg]; exact Nat.ne_of_lt (blk_lt (g := gb165) (o := .cells #[.slice (some ad166) ((rd_T41 ((rd_T47 l0_1 x37_3).f3) x54_5).f0).length c164_0, .int .i64 ((rd_T41 ((rd_T47 l0_1 x37_3).f3) x54_5).f1), .int .i64 ((rd_T41 ((rd_T47 l0_1 x37_3).f3) x54_5).f2), .int .i64 ((rd_T41 ((rd_T47 l0_1 x37_3).f3) x54_5).f3), .int .i64 ((rd_T41 ((rd_T47 l0_1 x37_3).f3) x54_5).f4)] 41 (0, 0)) (by (with_reducible repeat (first | refine blk_drewN ?_ _ | refine blk_drew ?_ | refine blk_alloc ?_ _)); exact BK165.out)) : gb165 ≠ gb167)); have n12_ := Aside0.mk ((by rw [hg]; exact Nat.ne_of_gt (blk_lt (g := gb165) (o := .cells #[.slice (some ad166) ((rd_T41 ((rd_T47 l0_1 x37_3).f3) x54_5).f0).length c164_0, .int .i64 ((rd_T41 ((rd_T47 l0_1 x37_3).f3) x54_5).f1), .int .i64 ((rd_T41 ((rd_T47 l0_1 x37_3).f3) x54_5).f2), .int .i64 ((rd_T41 ((rd_T47 l0_1 x37_3).f3) x54_5).f3), .int .i64 ((rd_T41 ((rd_T47 l0_1 x37_3).f3) x54_5).f4)] 41 (0, 0)) (by (with_reducible repeat (first | refine blk_drewN ?_ _ | refine blk_drew ?_ | refine blk_alloc ?_ _)); exact BK165.out)) : gb167 ≠ gb165)); clear BK159; clear BK163; clear BK165; clear HB; have BK159 := n0_; have BK163 := n1_; have BK165 := n2_; have HB := n3_; have BK167 := n4_; have GW167 := n5_; have GE167 := n6_; have NB159_167 := n7_; have NB167_159 := n8_; have NB163_167 := n9_; have NB167_163 := n10_; have NB165_167 := n11_; have NB167_165 := n12_; clear n0_ n1_ n2_ n3_ n4_ n5_ n6_ n7_ n8_ n9_ n10_ n11_ n12_; clear hb hbox hg; have hnb70 := NB167_159.out; have hnc70 := NB159_167.out; have hnb71 := NB167_163.out; have hnc71 := NB163_167.out; have hnb72 := NB167_165.out; have hnc72 := NB165_167.out; have hcz73_0 : w69.cell? ⟨gb167, 0, none⟩ = some (.int .i64 0) := (blk_cell BK167.out 0).trans rfl; have hcz73_1 : w69.cell? ⟨gb167, 1, none⟩ = some (.int .i64 0) := (blk_cell BK167.out 1).trans rfl; have hcz73_2 : w69.cell? ⟨gb167, 2, none⟩ = some (.int .i64 0) := (blk_cell BK167.out 2).trans rfl; have hcz73_3 : w69.cell? ⟨gb167, 3, none⟩ = some (.int .i64 0) := (blk_cell BK167.out 3).trans rfl; have hcz73_4 : w69.cell? ⟨gb167, 4, none⟩ = some (.int .i64 0) := (blk_cell BK167.out 4).trans rfl; have hcz73_5 : w69.cell? ⟨gb167, 5, none⟩ = some (.int .i32 0) := (blk_cell BK167.out 5).trans rfl; have hcz73_6 : w69.cell? ⟨gb167, 6, none⟩ = some (.string (⟨#[]⟩ : ByteArray)) := (blk_cell BK167.out 6).trans rfl; have hcz73_7 : w69.cell? ⟨gb167, 7, none⟩ = some (.slice none 0 0) := (blk_cell BK167.out 7).trans rfl; have hfz73_0 := blk_frozen BK167.out 0; have hfz73_1 := blk_frozen BK167.out 1; have hfz73_2 := blk_frozen BK167.out 2; have hfz73_3 := blk_frozen BK167.out 3; have hfz73_4 := blk_frozen BK167.out 4; have hfz73_5 := blk_frozen BK167.out 5; have hfz73_6 := blk_frozen BK167.out 6; have hfz73_7 := blk_frozen BK167.out 7))
                                                            go_roundg k7
                                                            case measure => have := HJ1.out; have := HK2.out; have := HK3.out; have := HJ22.out; have := HK5.out; have := HJ37.out; have := HK7.out; omega
                                                            case rel => exact ⟨(wrap64 (x74_7 + 1)), (by first | rfl | (simp; done) | (simp [*]; done)), H', ⟨by have := HJ1.out; have := HK2.out; have := HK3.out; have := HJ22.out; have := HK5.out; have := HJ37.out; have := HK7.out; omega⟩, ⟨by (with_reducible repeat (first | refine blk_drewN ?_ _ | refine blk_drew ?_ | refine blk_alloc ?_ _)); refine blk_far ?_ NB159_167.out _; (with_reducible repeat (first | refine blk_drewN ?_ _ | refine blk_drew ?_ | refine blk_alloc ?_ _)); refine blk_far ?_ NB159_167.out _; (with_reducible repeat (first | refine blk_drewN ?_ _ | refine blk_drew ?_ | refine blk_alloc ?_ _)); refine blk_far ?_ NB159_167.out _; (with_reducible repeat (first | refine blk_drewN ?_ _ | refine blk_drew ?_ | refine blk_alloc ?_ _)); refine blk_far ?_ NB159_167.out _; (with_reducible repeat (first | refine blk_drewN ?_ _ | refine blk_drew ?_ | refine blk_alloc ?_ _)); refine blk_far ?_ NB159_167.out _; (with_reducible repeat (first | refine blk_drewN ?_ _ | refine blk_drew ?_ | refine blk_alloc ?_ _)); refine blk_far ?_ NB159_167.out _; (with_reducible repeat (first | refine blk_drewN ?_ _ | refine blk_drew ?_ | refine blk_alloc ?_ _)); refine blk_far ?_ NB159_167.out _; (with_reducible repeat (first | refine blk_drewN ?_ _ | refine blk_drew ?_ | refine blk_alloc ?_ _)); refine blk_far ?_ NB159_167.out _; (with_reducible repeat (first | refine blk_drewN ?_ _ | refine blk_drew ?_ | refine blk_alloc ?_ _)); exact BK159.out⟩, ⟨by (with_reducible repeat (first | refine blk_drewN ?_ _ | refine blk_drew ?_ | refine blk_alloc ?_ _)); refine blk_far ?_ NB163_167.out _; (with_reducible repeat (first | refine blk_drewN ?_ _ | refine blk_drew ?_ | refine blk_alloc ?_ _)); refine blk_far ?_ NB163_167.out _; (with_reducible repeat (first | refine blk_drewN ?_ _ | refine blk_drew ?_ | refine blk_alloc ?_ _)); refine blk_far ?_ NB163_167.out _; (with_reducible repeat (first | refine blk_drewN ?_ _ | refine blk_drew ?_ | refine blk_alloc ?_ _)); refine blk_far ?_ NB163_167.out _; (with_reducible repeat (first | refine blk_drewN ?_ _ | refine blk_drew ?_ | refine blk_alloc ?_ _)); refine blk_far ?_ NB163_167.out _; (with_reducible repeat (first | refine blk_drewN ?_ _ | refine blk_drew ?_ | refine blk_alloc ?_ _)); refine blk_far ?_ NB163_167.out _; (with_reducible repeat (first | refine blk_drewN ?_ _ | refine blk_drew ?_ | refine blk_alloc ?_ _)); refine blk_far ?_ NB163_167.out _; (with_reducible repeat (first | refine blk_drewN ?_ _ | refine blk_drew ?_ | refine blk_alloc ?_ _)); refine blk_far ?_ NB163_167.out _; (with_reducible repeat (first | refine blk_drewN ?_ _ | refine blk_drew ?_ | refine blk_alloc ?_ _)); exact BK163.out⟩, ⟨by (with_reducible repeat (first | refine blk_drewN ?_ _ | refine blk_drew ?_ | refine blk_alloc ?_ _)); refine blk_far ?_ NB165_167.out _; (with_reducible repeat (first | refine blk_drewN ?_ _ | refine blk_drew ?_ | refine blk_alloc ?_ _)); refine blk_far ?_ NB165_167.out _; (with_reducible repeat (first | refine blk_drewN ?_ _ | refine blk_drew ?_ | refine blk_alloc ?_ _)); refine blk_far ?_ NB165_167.out _; (with_reducible repeat (first | refine blk_drewN ?_ _ | refine blk_drew ?_ | refine blk_alloc ?_ _)); refine blk_far ?_ NB165_167.out _; (with_reducible repeat (first | refine blk_drewN ?_ _ | refine blk_drew ?_ | refine blk_alloc ?_ _)); refine blk_far ?_ NB165_167.out _; (with_reducible repeat (first | refine blk_drewN ?_ _ | refine blk_drew ?_ | refine blk_alloc ?_ _)); refine blk_far ?_ NB165_167.out _; (with_reducible repeat (first | refine blk_drewN ?_ _ | refine blk_drew ?_ | refine blk_alloc ?_ _)); refine blk_far ?_ NB165_167.out _; (with_reducible repeat (first | refine blk_drewN ?_ _ | refine blk_drew ?_ | refine blk_alloc ?_ _)); refine blk_far ?_ NB165_167.out _; (with_reducible repeat (first | refine blk_drewN ?_ _ | refine blk_drew ?_ | refine blk_alloc ?_ _)); exact BK165.out⟩, ⟨by repeat (first | (with_reducible first | exact HB.out | apply below_alloc | apply pw_below_drewN | apply below_drew1 | refine below_set ?_ GE159.out | refine below_set ?_ GE163.out | refine below_set ?_ GE165.out | refine below_set ?_ GE167.out) | exact HB.out)⟩⟩
                                                      · rw [if_neg c56] at H
                                                        exact absurd H (by simp)
                                                    · rw [if_neg c55] at H
                                                      exact absurd H (by simp)
                                                  · rw [if_neg c54] at H
                                                    have c54b0 : decide (x74_7 < (((rd_T41 ((rd_T47 l0_1 x37_3).f3) x54_5).f0).length : Int)) = false := decide_eq_false c54
                                                    clear c54
                                                    have H' := Aside0.mk H
                                                    clear H
                                                    go_wp2
                                                    go_roundg k7
                                                    case measure => have := HJ1.out; have := HK2.out; have := HK3.out; have := HJ22.out; have := HK5.out; have := HJ37.out; have := HK7.out; omega
                                                    case rel => exact ⟨((wrap64 (x5_5 + (((rd_T41 ((rd_T47 l0_1 x37_3).f3) x54_5).f0).length : Int)))), (wrap64 (x54_5 + 1)), (by first | rfl | (simp; done) | (simp [*]; done)), (by first | rfl | (simp; done) | (simp [*]; done)), H', ⟨by have := HJ1.out; have := HK2.out; have := HK3.out; have := HJ22.out; have := HK5.out; have := HJ37.out; have := HK7.out; omega⟩, ⟨by (with_reducible repeat (first | refine blk_drewN ?_ _ | refine blk_drew ?_ | refine blk_alloc ?_ _)); exact BK159.out⟩, ⟨by (with_reducible repeat (first | refine blk_drewN ?_ _ | refine blk_drew ?_ | refine blk_alloc ?_ _)); exact BK163.out⟩, ⟨by repeat (first | (with_reducible first | exact HB.out | apply below_alloc | apply pw_below_drewN | apply below_drew1 | refine below_set ?_ GE159.out | refine below_set ?_ GE163.out | refine below_set ?_ GE165.out) | exact HB.out)⟩⟩
                                      · rw [if_neg c37] at H
                                        exact absurd H (by simp)
                                    · rw [if_neg c36] at H
                                      exact absurd H (by simp)
                                  · rw [if_neg c35] at H
                                    have c35b0 : decide (x54_5 < (((rd_T47 l0_1 x37_3).f3).length : Int)) = false := decide_eq_false c35
                                    clear c35
                                    have H' := Aside0.mk H
                                    clear H
                                    go_wp2
                                    go_roundg k5
                                    case measure => have := HJ1.out; have := HK2.out; have := HK3.out; have := HJ22.out; have := HK5.out; omega
                                    case rel => exact ⟨(x5_5), (wrap64 (x37_3 + 1)), (by first | rfl | (simp; done) | (simp [*]; done)), (by first | rfl | (simp; done) | (simp [*]; done)), H', ⟨by have := HJ1.out; have := HK2.out; have := HK3.out; have := HJ22.out; have := HK5.out; omega⟩, ⟨by (with_reducible repeat (first | refine blk_drewN ?_ _ | refine blk_drew ?_ | refine blk_alloc ?_ _)); exact BK159.out⟩, ⟨by repeat (first | (with_reducible first | exact HB.out | apply below_alloc | apply pw_below_drewN | apply below_drew1 | refine below_set ?_ GE159.out | refine below_set ?_ GE163.out) | exact HB.out)⟩⟩
                      · rw [if_neg c22] at H
                        exact absurd H (by simp)
                    · rw [if_neg c21] at H
                      exact absurd H (by simp)
                  · rw [if_neg c20] at H
                    have c20b0 : decide (x37_3 < (l0_1.length : Int)) = false := decide_eq_false c20
                    clear c20
                    obtain rfl := Option.some.inj H
                    go_wp2
                    go_ret
                    exact ⟨by first | rfl | (simp [errW_none, errW_some] <;> rfl) | (simp [*, errW_none, errW_some] <;> rfl), by repeat (first | (with_reducible first | exact HB.out | apply below_alloc | apply pw_below_drewN | apply below_drew1 | refine below_set ?_ GE159.out) | exact HB.out)⟩
end Go.Proofs.Ytabkinlpbefjgaa.X

