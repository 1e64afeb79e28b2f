/- The walks: for each Go function a Lean function with the same answers, and the proof that the Go code comes to them; no condition beyond what each contract states. Written by this session's own program xprint.py (over the kit's print program); not one of print.sh's texts. -/
import Derived.Test.YtpoofggcodiaiaaX0
import Derived.Test.YtpoofggcodiaiaaX7
import Derived.Test.YtpoofggcodiaiaaX8
import Derived.Test.YtpoofggcodiaiaaX9
namespace Go.Proofs.Ytpoofggcodiaiaa.X
open Go.RowKit Go.Proofs.YtpoofggcodiaiaaW.PrintWords Go.Proofs.YtpoofggcodiaiaaW.PrintLast Go.Proofs.YtpoofggcodiaiaaW.PrintMore
attribute [local go_sem] max2_int min2_int max_two min_two max_three min_three max_four min_four   -- for this text's walks alone
set_option linter.unusedVariables false
set_option linter.unusedSimpArgs false

private theorem xdn {w : World} {a b : Nat} : ∃ n, (w.drewN a).drewN b = w.drewN n := ⟨_, World.drewN_drewN _ _ _⟩
/-! ### brazierref17_MayLine: function 11 -/
mutual
def brazierref17_MayLine.j0 : Nat → ByteArray → Bool → Int → Int → Int → Int → Int → Int → ByteArray → Option (Bool)
 | 0, _, _, _, _, _, _, _, _, _ => none
 | k + 1, x3, x58, x136000, x136001, x136002, x136003, x136004, x136005, x136006 => if x58 = true then (some false) else ((brazierref17_has.f k x3 68).bind fun t139 => ((brazierref17_reg.f t139 x136002).bind fun t140 => (if t140 = true then ((brazierref17_has.f k x3 65).bind fun t141 => (if t141 = true then ((brazierref17_reg.f true x136003).bind fun t142 => (if t142 = true then ((brazierref17_has.f k x3 66).bind fun t143 => ((brazierref17_reg.f t143 x136004).bind fun t144 => (brazierref17_MayLine.j1 k (!t144) x136000 x136001 x136002 x136003 x136004 x136005 x136006))) else (brazierref17_MayLine.j1 k true x136000 x136001 x136002 x136003 x136004 x136005 x136006))) else ((brazierref17_has.f k x3 80).bind fun t145 => ((brazierref17_reg.f t145 x136003).bind fun t146 => (if t146 = true then ((brazierref17_has.f k x3 66).bind fun t147 => ((brazierref17_reg.f t147 x136004).bind fun t148 => (brazierref17_MayLine.j1 k (!t148) x136000 x136001 x136002 x136003 x136004 x136005 x136006))) else (brazierref17_MayLine.j1 k true x136000 x136001 x136002 x136003 x136004 x136005 x136006)))))) else (brazierref17_MayLine.j1 k true x136000 x136001 x136002 x136003 x136004 x136005 x136006))))
def brazierref17_MayLine.j1 : Nat → Bool → Int → Int → Int → Int → Int → Int → ByteArray → Option (Bool)
 | 0, _, _, _, _, _, _, _, _ => none
 | k + 1, x84, x136000, x136001, x136002, x136003, x136004, x136005, x136006 => if x84 = true then (some false) else (if x136006.toList = ([] : List UInt8) then (some true) else (if x136001 = 1 then ((brazierref17_IsSym.f k x136006).bind fun t149 => (if t149 = true then (some (x136005 == 0)) else (some false))) else (if x136001 = 2 then ((brazierref17_IsSym.f k x136006).bind fun t150 => (if t150 = true then (some (x136005 == 0)) else (some false))) else (if x136001 = 28 then ((brazierref17_IsSym.f k x136006).bind fun t151 => (if t151 = true then (some (x136005 == 0)) else (some false))) else (some false)))))
end
def brazierref17_MayLine.f (k : Nat) (a0_0 : Int) (a0_1 : Int) (a0_2 : Int) (a0_3 : Int) (a0_4 : Int) (a0_5 : Int) (a0_6 : ByteArray) : Option (Bool) := if a0_0 = 1 then ((brazierref17_IsSym.f k a0_6).bind fun t136 => (if t136 = true then (if a0_1 = 0 then (if a0_2 = 0 then (if a0_3 = 0 then (if a0_4 = 0 then (some (a0_5 == 0)) else (some false)) else (some false)) else (some false)) else (some false)) else (some false))) else ((brazierref17_Shape.f k a0_1).bind fun t137 => (if a0_0 = 2 then (if a0_1 < 1 then (brazierref17_MayLine.j0 k t137 true a0_0 a0_1 a0_2 a0_3 a0_4 a0_5 a0_6) else (if a0_1 > 30 then (brazierref17_MayLine.j0 k t137 true a0_0 a0_1 a0_2 a0_3 a0_4 a0_5 a0_6) else ((brazierref17_num.f k a0_1 a0_5).bind fun t138 => (brazierref17_MayLine.j0 k t137 (!t138) a0_0 a0_1 a0_2 a0_3 a0_4 a0_5 a0_6)))) else (brazierref17_MayLine.j0 k t137 true a0_0 a0_1 a0_2 a0_3 a0_4 a0_5 a0_6)))
theorem brazierref17_MayLine.mono_l : ∀ k, (∀ y0 y1 y2 y3 y4 y5 y6 y7 y8, LeO (brazierref17_MayLine.j0 k y0 y1 y2 y3 y4 y5 y6 y7 y8) (brazierref17_MayLine.j0 (k + 1) y0 y1 y2 y3 y4 y5 y6 y7 y8)) ∧ (∀ y0 y1 y2 y3 y4 y5 y6 y7, LeO (brazierref17_MayLine.j1 k y0 y1 y2 y3 y4 y5 y6 y7) (brazierref17_MayLine.j1 (k + 1) y0 y1 y2 y3 y4 y5 y6 y7))
 | 0 => ⟨fun _ _ _ _ _ _ _ _ _ r h => by simp [brazierref17_MayLine.j0] at h, fun _ _ _ _ _ _ _ _ r h => by simp [brazierref17_MayLine.j1] at h⟩
 | k + 1 => by
  obtain ⟨ih0, ih1⟩ := brazierref17_MayLine.mono_l k
  refine ⟨?_, ?_⟩
  ·intro y0 y1 y2 y3 y4 y5 y6 y7 y8
   unfold brazierref17_MayLine.j0
   repeat' first
   | (with_reducible exact ih0 _ _ _ _ _ _ _ _ _)
   | (with_reducible exact ih1 _ _ _ _ _ _ _ _)
   | (with_reducible exact brazierref17_IsSym.mono _ _)
   | (with_reducible exact brazierref17_Shape.mono _ _)
   | (with_reducible exact brazierref17_has.mono _ _ _)
   | (with_reducible exact brazierref17_num.mono _ _ _)
   | (with_reducible exact LeO.refl _)
   | (with_reducible exact LeO.none _)
   | (with_reducible refine LeO.ite ?_ ?_)
   | (with_reducible refine LeO.bind ?_ (fun _ => ?_))
   | exact ih0 _ _ _ _ _ _ _ _ _
   | exact ih1 _ _ _ _ _ _ _ _
   | exact brazierref17_IsSym.mono _ _
   | exact brazierref17_Shape.mono _ _
   | exact brazierref17_has.mono _ _ _
   | exact brazierref17_num.mono _ _ _
   | exact LeO.none _
   | refine LeO.ite ?_ ?_
   | refine LeO.bind ?_ (fun _ => ?_)
  ·intro y0 y1 y2 y3 y4 y5 y6 y7
   unfold brazierref17_MayLine.j1
   repeat' first
   | (with_reducible exact ih0 _ _ _ _ _ _ _ _ _)
   | (with_reducible exact ih1 _ _ _ _ _ _ _ _)
   | (with_reducible exact brazierref17_IsSym.mono _ _)
   | (with_reducible exact brazierref17_Shape.mono _ _)
   | (with_reducible exact brazierref17_has.mono _ _ _)
   | (with_reducible exact brazierref17_num.mono _ _ _)
   | (with_reducible exact LeO.refl _)
   | (with_reducible exact LeO.none _)
   | (with_reducible refine LeO.ite ?_ ?_)
   | (with_reducible refine LeO.bind ?_ (fun _ => ?_))
   | exact ih0 _ _ _ _ _ _ _ _ _
   | exact ih1 _ _ _ _ _ _ _ _
   | exact brazierref17_IsSym.mono _ _
   | exact brazierref17_Shape.mono _ _
   | exact brazierref17_has.mono _ _ _
   | exact brazierref17_num.mono _ _ _
   | exact LeO.none _
   | refine LeO.ite ?_ ?_
   | refine LeO.bind ?_ (fun _ => ?_)
theorem brazierref17_MayLine.mono : ∀ a0 a1 a2 a3 a4 a5 a6 k, LeO (brazierref17_MayLine.f k a0 a1 a2 a3 a4 a5 a6) (brazierref17_MayLine.f (k + 1) a0 a1 a2 a3 a4 a5 a6) := by
 intro a0 a1 a2 a3 a4 a5 a6 k
 obtain ⟨ih0, ih1⟩ := brazierref17_MayLine.mono_l k
 unfold brazierref17_MayLine.f
 repeat' first
   | (with_reducible exact ih0 _ _ _ _ _ _ _ _ _)
   | (with_reducible exact ih1 _ _ _ _ _ _ _ _)
   | (with_reducible exact brazierref17_IsSym.mono _ _)
   | (with_reducible exact brazierref17_Shape.mono _ _)
   | (with_reducible exact brazierref17_has.mono _ _ _)
   | (with_reducible exact brazierref17_num.mono _ _ _)
   | (with_reducible exact LeO.refl _)
   | (with_reducible exact LeO.none _)
   | (with_reducible refine LeO.ite ?_ ?_)
   | (with_reducible refine LeO.bind ?_ (fun _ => ?_))
   | exact ih0 _ _ _ _ _ _ _ _ _
   | exact ih1 _ _ _ _ _ _ _ _
   | exact brazierref17_IsSym.mono _ _
   | exact brazierref17_Shape.mono _ _
   | exact brazierref17_has.mono _ _ _
   | exact brazierref17_num.mono _ _ _
   | exact LeO.none _
   | refine LeO.ite ?_ ?_
   | refine LeO.bind ?_ (fun _ => ?_)
set_option maxHeartbeats 60000000 in
set_option maxRecDepth 100000 in
theorem brazierref17_MayLine.calls (k : Nat) (a0_0 : Int) (a0_1 : Int) (a0_2 : Int) (a0_3 : Int) (a0_4 : Int) (a0_5 : Int) (a0_6 : ByteArray) (r : Bool) (w : World) (h : brazierref17_MayLine.f k a0_0 a0_1 a0_2 a0_3 a0_4 a0_5 a0_6 = some r) :
  Calls Try.prog 11 #[.agg #[.int .i64 a0_0, .int .i64 a0_1, .int .i64 a0_2, .int .i64 a0_3, .int .i64 a0_4, .int .i32 a0_5, .string a0_6]] w fun e w' => e = .returned (.bool r) ∧ Below w.heap.size w w' := by
 have hu23 := Try.underlying23
 have HB := Aside0.mk (Below.refl w.heap.size w)
 have H : (if a0_0 = 1 then ((brazierref17_IsSym.f k a0_6).bind fun t136 => (if t136 = true then (if a0_1 = 0 then (if a0_2 = 0 then (if a0_3 = 0 then (if a0_4 = 0 then (some (a0_5 == 0)) else (some false)) else (some false)) else (some false)) else (some false)) else (some false))) else ((brazierref17_Shape.f k a0_1).bind fun t137 => (if a0_0 = 2 then (if a0_1 < 1 then (brazierref17_MayLine.j0 k t137 true a0_0 a0_1 a0_2 a0_3 a0_4 a0_5 a0_6) else (if a0_1 > 30 then (brazierref17_MayLine.j0 k t137 true a0_0 a0_1 a0_2 a0_3 a0_4 a0_5 a0_6) else ((brazierref17_num.f k a0_1 a0_5).bind fun t138 => (brazierref17_MayLine.j0 k t137 (!t138) a0_0 a0_1 a0_2 a0_3 a0_4 a0_5 a0_6)))) else (brazierref17_MayLine.j0 k t137 true a0_0 a0_1 a0_2 a0_3 a0_4 a0_5 a0_6)))) = some r := h
 clear h
 by_cases c2 : a0_0 = 1
 ·rw [if_pos c2] at H
  have c2b0 : (a0_0 == 1) = true := beq_iff_eq.mpr c2
  have c2b1 : (a0_0 != 1) = false := bne_eq_false_iff_eq.mpr c2
  clear c2
  replace H := Option.bind_eq_some_iff.mp H
  obtain ⟨t136, A30, H⟩ := H
  replace H : (if t136 = true then (if a0_1 = 0 then (if a0_2 = 0 then (if a0_3 = 0 then (if a0_4 = 0 then (some (a0_5 == 0)) else (some false)) else (some false)) else (some false)) else (some false)) else (some false)) = some r := H
  have A3 := Aside0.mk A30
  clear A30
  by_cases c4 : t136 = true
  ·subst c4
   have H1 : (if a0_1 = 0 then (if a0_2 = 0 then (if a0_3 = 0 then (if a0_4 = 0 then (some (a0_5 == 0)) else (some false)) else (some false)) else (some false)) else (some false)) = some r := by rw [if_pos rfl] at H; exact H
   clear H
   have H := H1
   clear H1
   by_cases c5 : a0_1 = 0
   ·rw [if_pos c5] at H
    have c5b0 : (a0_1 == 0) = true := beq_iff_eq.mpr c5
    have c5b1 : (a0_1 != 0) = false := bne_eq_false_iff_eq.mpr c5
    clear c5
    by_cases c6 : a0_2 = 0
    ·rw [if_pos c6] at H
     have c6b0 : (a0_2 == 0) = true := beq_iff_eq.mpr c6
     have c6b1 : (a0_2 != 0) = false := bne_eq_false_iff_eq.mpr c6
     clear c6
     by_cases c7 : a0_3 = 0
     ·rw [if_pos c7] at H
      have c7b0 : (a0_3 == 0) = true := beq_iff_eq.mpr c7
      have c7b1 : (a0_3 != 0) = false := bne_eq_false_iff_eq.mpr c7
      clear c7
      by_cases c8 : a0_4 = 0
      ·rw [if_pos c8] at H
       have c8b0 : (a0_4 == 0) = true := beq_iff_eq.mpr c8
       have c8b1 : (a0_4 != 0) = false := bne_eq_false_iff_eq.mpr c8
       clear c8
       obtain rfl := Option.some.inj H
       go_enter Try.func11, Try.ntmps11
       go_wp2_with (first | ((with_reducible refine gate_dst (N := 1) rfl ?_); refine box_event ?hg (N := 1) ?hd (cs := #[.int .i64 a0_0, .int .i64 a0_1, .int .i64 a0_2, .int .i64 a0_3, .int .i64 a0_4, .int .i32 a0_5, .string a0_6]) (t := 23) ?hr ?_; (case hd => rfl); (case hg => rfl); (case hr => (go_simp; done)); intro gb135 hg w9 hbox hb; have n0_ := Aside0.mk (below_step (by repeat ((with_reducible exact HB.out))) hb); have n1_ := Aside0.mk (hbox); have n2_ := Aside0.mk ((by rw [hg]; exact (below_size (by repeat ((with_reducible exact HB.out)))) : w.heap.size ≤ gb135)); have n3_ := Aside0.mk ((by rw [hg]; exact (below_size (by repeat ((with_reducible exact HB.out)))) : w.heap.size ≤ gb135)); clear HB; have HB := n0_; have BK135 := n1_; have GW135 := n2_; have GE135 := n3_; clear n0_ n1_ n2_ n3_; clear hb hbox hg; have hcz10_0 : w9.cell? ⟨gb135, 0, none⟩ = some (.int .i64 a0_0) := (blk_cell BK135.out 0).trans rfl; have hcz10_1 : w9.cell? ⟨gb135, 1, none⟩ = some (.int .i64 a0_1) := (blk_cell BK135.out 1).trans rfl; have hcz10_2 : w9.cell? ⟨gb135, 2, none⟩ = some (.int .i64 a0_2) := (blk_cell BK135.out 2).trans rfl; have hcz10_3 : w9.cell? ⟨gb135, 3, none⟩ = some (.int .i64 a0_3) := (blk_cell BK135.out 3).trans rfl; have hcz10_4 : w9.cell? ⟨gb135, 4, none⟩ = some (.int .i64 a0_4) := (blk_cell BK135.out 4).trans rfl; have hcz10_5 : w9.cell? ⟨gb135, 5, none⟩ = some (.int .i32 a0_5) := (blk_cell BK135.out 5).trans rfl; have hcz10_6 : w9.cell? ⟨gb135, 6, none⟩ = some (.string a0_6) := (blk_cell BK135.out 6).trans rfl; have hfz10_0 := blk_frozen BK135.out 0; have hfz10_1 := blk_frozen BK135.out 1; have hfz10_2 := blk_frozen BK135.out 2; have hfz10_3 := blk_frozen BK135.out 3; have hfz10_4 := blk_frozen BK135.out 4; have hfz10_5 := blk_frozen BK135.out 5; have hfz10_6 := blk_frozen BK135.out 6) | (go_at_call 22; (with_reducible refine (brazierref17_IsSym.calls k a0_6 true _ A3.out).mono ?_); rintro e w' ⟨rfl, ⟨nd, rfl⟩⟩))
       go_ret
       exact ⟨by rfl, by repeat ((with_reducible first | exact HB.out | apply pw_below_drewN))⟩
      ·rw [if_neg c8] at H
       have c8b0 : (a0_4 == 0) = false := beq_eq_false_iff_ne.mpr c8
       have c8b1 : (a0_4 != 0) = true := bne_iff_ne.mpr c8
       obtain rfl := Option.some.inj H
       go_enter Try.func11, Try.ntmps11
       go_wp2_with (first | ((with_reducible refine gate_dst (N := 1) rfl ?_); refine box_event ?hg (N := 1) ?hd (cs := #[.int .i64 a0_0, .int .i64 a0_1, .int .i64 a0_2, .int .i64 a0_3, .int .i64 a0_4, .int .i32 a0_5, .string a0_6]) (t := 23) ?hr ?_; (case hd => rfl); (case hg => rfl); (case hr => (go_simp; done)); intro gb135 hg w11 hbox hb; have n0_ := Aside0.mk (below_step (by repeat ((with_reducible exact HB.out))) hb); have n1_ := Aside0.mk (hbox); have n2_ := Aside0.mk ((by rw [hg]; exact (below_size (by repeat ((with_reducible exact HB.out)))) : w.heap.size ≤ gb135)); have n3_ := Aside0.mk ((by rw [hg]; exact (below_size (by repeat ((with_reducible exact HB.out)))) : w.heap.size ≤ gb135)); clear HB; have HB := n0_; have BK135 := n1_; have GW135 := n2_; have GE135 := n3_; clear n0_ n1_ n2_ n3_; clear hb hbox hg; have hcz12_0 : w11.cell? ⟨gb135, 0, none⟩ = some (.int .i64 a0_0) := (blk_cell BK135.out 0).trans rfl; have hcz12_1 : w11.cell? ⟨gb135, 1, none⟩ = some (.int .i64 a0_1) := (blk_cell BK135.out 1).trans rfl; have hcz12_2 : w11.cell? ⟨gb135, 2, none⟩ = some (.int .i64 a0_2) := (blk_cell BK135.out 2).trans rfl; have hcz12_3 : w11.cell? ⟨gb135, 3, none⟩ = some (.int .i64 a0_3) := (blk_cell BK135.out 3).trans rfl; have hcz12_4 : w11.cell? ⟨gb135, 4, none⟩ = some (.int .i64 a0_4) := (blk_cell BK135.out 4).trans rfl; have hcz12_5 : w11.cell? ⟨gb135, 5, none⟩ = some (.int .i32 a0_5) := (blk_cell BK135.out 5).trans rfl; have hcz12_6 : w11.cell? ⟨gb135, 6, none⟩ = some (.string a0_6) := (blk_cell BK135.out 6).trans rfl; have hfz12_0 := blk_frozen BK135.out 0; have hfz12_1 := blk_frozen BK135.out 1; have hfz12_2 := blk_frozen BK135.out 2; have hfz12_3 := blk_frozen BK135.out 3; have hfz12_4 := blk_frozen BK135.out 4; have hfz12_5 := blk_frozen BK135.out 5; have hfz12_6 := blk_frozen BK135.out 6) | (go_at_call 22; (with_reducible refine (brazierref17_IsSym.calls k a0_6 true _ A3.out).mono ?_); rintro e w' ⟨rfl, ⟨nd, rfl⟩⟩))
       go_ret
       exact ⟨by rfl, by repeat ((with_reducible first | exact HB.out | apply pw_below_drewN))⟩
     ·rw [if_neg c7] at H
      have c7b0 : (a0_3 == 0) = false := beq_eq_false_iff_ne.mpr c7
      have c7b1 : (a0_3 != 0) = true := bne_iff_ne.mpr c7
      obtain rfl := Option.some.inj H
      go_enter Try.func11, Try.ntmps11
      go_wp2_with (first | ((with_reducible refine gate_dst (N := 1) rfl ?_); refine box_event ?hg (N := 1) ?hd (cs := #[.int .i64 a0_0, .int .i64 a0_1, .int .i64 a0_2, .int .i64 a0_3, .int .i64 a0_4, .int .i32 a0_5, .string a0_6]) (t := 23) ?hr ?_; (case hd => rfl); (case hg => rfl); (case hr => (go_simp; done)); intro gb135 hg w13 hbox hb; have n0_ := Aside0.mk (below_step (by repeat ((with_reducible exact HB.out))) hb); have n1_ := Aside0.mk (hbox); have n2_ := Aside0.mk ((by rw [hg]; exact (below_size (by repeat ((with_reducible exact HB.out)))) : w.heap.size ≤ gb135)); have n3_ := Aside0.mk ((by rw [hg]; exact (below_size (by repeat ((with_reducible exact HB.out)))) : w.heap.size ≤ gb135)); clear HB; have HB := n0_; have BK135 := n1_; have GW135 := n2_; have GE135 := n3_; clear n0_ n1_ n2_ n3_; clear hb hbox hg; have hcz14_0 : w13.cell? ⟨gb135, 0, none⟩ = some (.int .i64 a0_0) := (blk_cell BK135.out 0).trans rfl; have hcz14_1 : w13.cell? ⟨gb135, 1, none⟩ = some (.int .i64 a0_1) := (blk_cell BK135.out 1).trans rfl; have hcz14_2 : w13.cell? ⟨gb135, 2, none⟩ = some (.int .i64 a0_2) := (blk_cell BK135.out 2).trans rfl; have hcz14_3 : w13.cell? ⟨gb135, 3, none⟩ = some (.int .i64 a0_3) := (blk_cell BK135.out 3).trans rfl; have hcz14_4 : w13.cell? ⟨gb135, 4, none⟩ = some (.int .i64 a0_4) := (blk_cell BK135.out 4).trans rfl; have hcz14_5 : w13.cell? ⟨gb135, 5, none⟩ = some (.int .i32 a0_5) := (blk_cell BK135.out 5).trans rfl; have hcz14_6 : w13.cell? ⟨gb135, 6, none⟩ = some (.string a0_6) := (blk_cell BK135.out 6).trans rfl; have hfz14_0 := blk_frozen BK135.out 0; have hfz14_1 := blk_frozen BK135.out 1; have hfz14_2 := blk_frozen BK135.out 2; have hfz14_3 := blk_frozen BK135.out 3; have hfz14_4 := blk_frozen BK135.out 4; have hfz14_5 := blk_frozen BK135.out 5; have hfz14_6 := blk_frozen BK135.out 6) | (go_at_call 22; (with_reducible refine (brazierref17_IsSym.calls k a0_6 true _ A3.out).mono ?_); rintro e w' ⟨rfl, ⟨nd, rfl⟩⟩))
      go_ret
      exact ⟨by rfl, by repeat ((with_reducible first | exact HB.out | apply pw_below_drewN))⟩
    ·rw [if_neg c6] at H
     have c6b0 : (a0_2 == 0) = false := beq_eq_false_iff_ne.mpr c6
     have c6b1 : (a0_2 != 0) = true := bne_iff_ne.mpr c6
     obtain rfl := Option.some.inj H
     go_enter Try.func11, Try.ntmps11
     go_wp2_with (first | ((with_reducible refine gate_dst (N := 1) rfl ?_); refine box_event ?hg (N := 1) ?hd (cs := #[.int .i64 a0_0, .int .i64 a0_1, .int .i64 a0_2, .int .i64 a0_3, .int .i64 a0_4, .int .i32 a0_5, .string a0_6]) (t := 23) ?hr ?_; (case hd => rfl); (case hg => rfl); (case hr => (go_simp; done)); intro gb135 hg w15 hbox hb; have n0_ := Aside0.mk (below_step (by repeat ((with_reducible exact HB.out))) hb); have n1_ := Aside0.mk (hbox); have n2_ := Aside0.mk ((by rw [hg]; exact (below_size (by repeat ((with_reducible exact HB.out)))) : w.heap.size ≤ gb135)); have n3_ := Aside0.mk ((by rw [hg]; exact (below_size (by repeat ((with_reducible exact HB.out)))) : w.heap.size ≤ gb135)); clear HB; have HB := n0_; have BK135 := n1_; have GW135 := n2_; have GE135 := n3_; clear n0_ n1_ n2_ n3_; clear hb hbox hg; have hcz16_0 : w15.cell? ⟨gb135, 0, none⟩ = some (.int .i64 a0_0) := (blk_cell BK135.out 0).trans rfl; have hcz16_1 : w15.cell? ⟨gb135, 1, none⟩ = some (.int .i64 a0_1) := (blk_cell BK135.out 1).trans rfl; have hcz16_2 : w15.cell? ⟨gb135, 2, none⟩ = some (.int .i64 a0_2) := (blk_cell BK135.out 2).trans rfl; have hcz16_3 : w15.cell? ⟨gb135, 3, none⟩ = some (.int .i64 a0_3) := (blk_cell BK135.out 3).trans rfl; have hcz16_4 : w15.cell? ⟨gb135, 4, none⟩ = some (.int .i64 a0_4) := (blk_cell BK135.out 4).trans rfl; have hcz16_5 : w15.cell? ⟨gb135, 5, none⟩ = some (.int .i32 a0_5) := (blk_cell BK135.out 5).trans rfl; have hcz16_6 : w15.cell? ⟨gb135, 6, none⟩ = some (.string a0_6) := (blk_cell BK135.out 6).trans rfl; have hfz16_0 := blk_frozen BK135.out 0; have hfz16_1 := blk_frozen BK135.out 1; have hfz16_2 := blk_frozen BK135.out 2; have hfz16_3 := blk_frozen BK135.out 3; have hfz16_4 := blk_frozen BK135.out 4; have hfz16_5 := blk_frozen BK135.out 5; have hfz16_6 := blk_frozen BK135.out 6) | (go_at_call 22; (with_reducible refine (brazierref17_IsSym.calls k a0_6 true _ A3.out).mono ?_); rintro e w' ⟨rfl, ⟨nd, rfl⟩⟩))
     go_ret
     exact ⟨by rfl, by repeat ((with_reducible first | exact HB.out | apply pw_below_drewN))⟩
   ·rw [if_neg c5] at H
    have c5b0 : (a0_1 == 0) = false := beq_eq_false_iff_ne.mpr c5
    have c5b1 : (a0_1 != 0) = true := bne_iff_ne.mpr c5
    obtain rfl := Option.some.inj H
    go_enter Try.func11, Try.ntmps11
    go_wp2_with (first | ((with_reducible refine gate_dst (N := 1) rfl ?_); refine box_event ?hg (N := 1) ?hd (cs := #[.int .i64 a0_0, .int .i64 a0_1, .int .i64 a0_2, .int .i64 a0_3, .int .i64 a0_4, .int .i32 a0_5, .string a0_6]) (t := 23) ?hr ?_; (case hd => rfl); (case hg => rfl); (case hr => (go_simp; done)); intro gb135 hg w17 hbox hb; have n0_ := Aside0.mk (below_step (by repeat ((with_reducible exact HB.out))) hb); have n1_ := Aside0.mk (hbox); have n2_ := Aside0.mk ((by rw [hg]; exact (below_size (by repeat ((with_reducible exact HB.out)))) : w.heap.size ≤ gb135)); have n3_ := Aside0.mk ((by rw [hg]; exact (below_size (by repeat ((with_reducible exact HB.out)))) : w.heap.size ≤ gb135)); clear HB; have HB := n0_; have BK135 := n1_; have GW135 := n2_; have GE135 := n3_; clear n0_ n1_ n2_ n3_; clear hb hbox hg; have hcz18_0 : w17.cell? ⟨gb135, 0, none⟩ = some (.int .i64 a0_0) := (blk_cell BK135.out 0).trans rfl; have hcz18_1 : w17.cell? ⟨gb135, 1, none⟩ = some (.int .i64 a0_1) := (blk_cell BK135.out 1).trans rfl; have hcz18_2 : w17.cell? ⟨gb135, 2, none⟩ = some (.int .i64 a0_2) := (blk_cell BK135.out 2).trans rfl; have hcz18_3 : w17.cell? ⟨gb135, 3, none⟩ = some (.int .i64 a0_3) := (blk_cell BK135.out 3).trans rfl; have hcz18_4 : w17.cell? ⟨gb135, 4, none⟩ = some (.int .i64 a0_4) := (blk_cell BK135.out 4).trans rfl; have hcz18_5 : w17.cell? ⟨gb135, 5, none⟩ = some (.int .i32 a0_5) := (blk_cell BK135.out 5).trans rfl; have hcz18_6 : w17.cell? ⟨gb135, 6, none⟩ = some (.string a0_6) := (blk_cell BK135.out 6).trans rfl; have hfz18_0 := blk_frozen BK135.out 0; have hfz18_1 := blk_frozen BK135.out 1; have hfz18_2 := blk_frozen BK135.out 2; have hfz18_3 := blk_frozen BK135.out 3; have hfz18_4 := blk_frozen BK135.out 4; have hfz18_5 := blk_frozen BK135.out 5; have hfz18_6 := blk_frozen BK135.out 6) | (go_at_call 22; (with_reducible refine (brazierref17_IsSym.calls k a0_6 true _ A3.out).mono ?_); rintro e w' ⟨rfl, ⟨nd, rfl⟩⟩))
    go_ret
    exact ⟨by rfl, by repeat ((with_reducible first | exact HB.out | apply pw_below_drewN))⟩
  ·replace c4 := Bool.eq_false_iff.mpr c4
   subst c4
   have H1 : (some false) = some r := by rw [if_neg (show ¬ (false = true) by decide)] at H; exact H
   clear H
   have H := H1
   clear H1
   obtain rfl := Option.some.inj H
   go_enter Try.func11, Try.ntmps11
   go_wp2_with (first | ((with_reducible refine gate_dst (N := 1) rfl ?_); refine box_event ?hg (N := 1) ?hd (cs := #[.int .i64 a0_0, .int .i64 a0_1, .int .i64 a0_2, .int .i64 a0_3, .int .i64 a0_4, .int .i32 a0_5, .string a0_6]) (t := 23) ?hr ?_; (case hd => rfl); (case hg => rfl); (case hr => (go_simp; done)); intro gb135 hg w19 hbox hb; have n0_ := Aside0.mk (below_step (by repeat ((with_reducible exact HB.out))) hb); have n1_ := Aside0.mk (hbox); have n2_ := Aside0.mk ((by rw [hg]; exact (below_size (by repeat ((with_reducible exact HB.out)))) : w.heap.size ≤ gb135)); have n3_ := Aside0.mk ((by rw [hg]; exact (below_size (by repeat ((with_reducible exact HB.out)))) : w.heap.size ≤ gb135)); clear HB; have HB := n0_; have BK135 := n1_; have GW135 := n2_; have GE135 := n3_; clear n0_ n1_ n2_ n3_; clear hb hbox hg; have hcz20_0 : w19.cell? ⟨gb135, 0, none⟩ = some (.int .i64 a0_0) := (blk_cell BK135.out 0).trans rfl; have hcz20_1 : w19.cell? ⟨gb135, 1, none⟩ = some (.int .i64 a0_1) := (blk_cell BK135.out 1).trans rfl; have hcz20_2 : w19.cell? ⟨gb135, 2, none⟩ = some (.int .i64 a0_2) := (blk_cell BK135.out 2).trans rfl; have hcz20_3 : w19.cell? ⟨gb135, 3, none⟩ = some (.int .i64 a0_3) := (blk_cell BK135.out 3).trans rfl; have hcz20_4 : w19.cell? ⟨gb135, 4, none⟩ = some (.int .i64 a0_4) := (blk_cell BK135.out 4).trans rfl; have hcz20_5 : w19.cell? ⟨gb135, 5, none⟩ = some (.int .i32 a0_5) := (blk_cell BK135.out 5).trans rfl; have hcz20_6 : w19.cell? ⟨gb135, 6, none⟩ = some (.string a0_6) := (blk_cell BK135.out 6).trans rfl; have hfz20_0 := blk_frozen BK135.out 0; have hfz20_1 := blk_frozen BK135.out 1; have hfz20_2 := blk_frozen BK135.out 2; have hfz20_3 := blk_frozen BK135.out 3; have hfz20_4 := blk_frozen BK135.out 4; have hfz20_5 := blk_frozen BK135.out 5; have hfz20_6 := blk_frozen BK135.out 6) | (go_at_call 22; (with_reducible refine (brazierref17_IsSym.calls k a0_6 false _ A3.out).mono ?_); rintro e w' ⟨rfl, ⟨nd, rfl⟩⟩))
   go_ret
   exact ⟨by rfl, by repeat ((with_reducible first | exact HB.out | apply pw_below_drewN))⟩
 ·rw [if_neg c2] at H
  have c2b0 : (a0_0 == 1) = false := beq_eq_false_iff_ne.mpr c2
  have c2b1 : (a0_0 != 1) = true := bne_iff_ne.mpr c2
  replace H := Option.bind_eq_some_iff.mp H
  obtain ⟨t137, A210, H⟩ := H
  replace H : (if a0_0 = 2 then (if a0_1 < 1 then (brazierref17_MayLine.j0 k t137 true a0_0 a0_1 a0_2 a0_3 a0_4 a0_5 a0_6) else (if a0_1 > 30 then (brazierref17_MayLine.j0 k t137 true a0_0 a0_1 a0_2 a0_3 a0_4 a0_5 a0_6) else ((brazierref17_num.f k a0_1 a0_5).bind fun t138 => (brazierref17_MayLine.j0 k t137 (!t138) a0_0 a0_1 a0_2 a0_3 a0_4 a0_5 a0_6)))) else (brazierref17_MayLine.j0 k t137 true a0_0 a0_1 a0_2 a0_3 a0_4 a0_5 a0_6)) = some r := H
  have A21 := Aside0.mk A210
  clear A210
  have HC22 := Aside0.mk H
  clear H
  go_enter Try.func11, Try.ntmps11
  go_upto_region 4 with (first | ((with_reducible refine gate_dst (N := 1) rfl ?_); refine box_event ?hg (N := 1) ?hd (cs := #[.int .i64 a0_0, .int .i64 a0_1, .int .i64 a0_2, .int .i64 a0_3, .int .i64 a0_4, .int .i32 a0_5, .string a0_6]) (t := 23) ?hr ?_; (case hd => rfl); (case hg => rfl); (case hr => (go_simp; done)); intro gb135 hg w23 hbox hb; have n0_ := Aside0.mk (below_step (by repeat ((with_reducible exact HB.out))) hb); have n1_ := Aside0.mk (hbox); have n2_ := Aside0.mk ((by rw [hg]; exact (below_size (by repeat ((with_reducible exact HB.out)))) : w.heap.size ≤ gb135)); have n3_ := Aside0.mk ((by rw [hg]; exact (below_size (by repeat ((with_reducible exact HB.out)))) : w.heap.size ≤ gb135)); clear HB; have HB := n0_; have BK135 := n1_; have GW135 := n2_; have GE135 := n3_; clear n0_ n1_ n2_ n3_; clear hb hbox hg; have hcz24_0 : w23.cell? ⟨gb135, 0, none⟩ = some (.int .i64 a0_0) := (blk_cell BK135.out 0).trans rfl; have hcz24_1 : w23.cell? ⟨gb135, 1, none⟩ = some (.int .i64 a0_1) := (blk_cell BK135.out 1).trans rfl; have hcz24_2 : w23.cell? ⟨gb135, 2, none⟩ = some (.int .i64 a0_2) := (blk_cell BK135.out 2).trans rfl; have hcz24_3 : w23.cell? ⟨gb135, 3, none⟩ = some (.int .i64 a0_3) := (blk_cell BK135.out 3).trans rfl; have hcz24_4 : w23.cell? ⟨gb135, 4, none⟩ = some (.int .i64 a0_4) := (blk_cell BK135.out 4).trans rfl; have hcz24_5 : w23.cell? ⟨gb135, 5, none⟩ = some (.int .i32 a0_5) := (blk_cell BK135.out 5).trans rfl; have hcz24_6 : w23.cell? ⟨gb135, 6, none⟩ = some (.string a0_6) := (blk_cell BK135.out 6).trans rfl; have hfz24_0 := blk_frozen BK135.out 0; have hfz24_1 := blk_frozen BK135.out 1; have hfz24_2 := blk_frozen BK135.out 2; have hfz24_3 := blk_frozen BK135.out 3; have hfz24_4 := blk_frozen BK135.out 4; have hfz24_5 := blk_frozen BK135.out 5; have hfz24_6 := blk_frozen BK135.out 6) | (go_at_call 23; (with_reducible refine (brazierref17_Shape.calls k a0_1 t137 _ A21.out).mono ?_); rintro e w' ⟨rfl, ⟨nd, rfl⟩⟩))
  go_cut [58] (fun v58 wc => ∃ (kq : Nat) (x58_21 : Bool), v58 = .bool x58_21 ∧ Aside0 (brazierref17_MayLine.j0 kq t137 x58_21 a0_0 a0_1 a0_2 a0_3 a0_4 a0_5 a0_6 = some r) ∧ Aside0 (kq ≤ k) ∧ Aside0 (wc.heap[gb135]? = some (.cells #[.int .i64 a0_0, .int .i64 a0_1, .int .i64 a0_2, .int .i64 a0_3, .int .i64 a0_4, .int .i32 a0_5, .string a0_6] 23 (0, 0))) ∧ Aside0 (Below w.heap.size w wc))
  case first =>
   have H := HC22.out
   clear HC22
   by_cases c25 : a0_0 = 2
   ·rw [if_pos c25] at H
    have c25b0 : (a0_0 == 2) = true := beq_iff_eq.mpr c25
    have c25b1 : (a0_0 != 2) = false := bne_eq_false_iff_eq.mpr c25
    clear c25
    by_cases c26 : a0_1 < 1
    ·rw [if_pos c26] at H
     have c26b0 : decide (a0_1 < 1) = true := decide_eq_true c26
     clear c26
     have H' := Aside0.mk H
     clear H
     have hcz27_0 : w23.cell? ⟨gb135, 0, none⟩ = some (.int .i64 a0_0) := (blk_cell BK135.out 0).trans rfl
     have hcz27_1 : w23.cell? ⟨gb135, 1, none⟩ = some (.int .i64 a0_1) := (blk_cell BK135.out 1).trans rfl
     have hcz27_2 : w23.cell? ⟨gb135, 2, none⟩ = some (.int .i64 a0_2) := (blk_cell BK135.out 2).trans rfl
     have hcz27_3 : w23.cell? ⟨gb135, 3, none⟩ = some (.int .i64 a0_3) := (blk_cell BK135.out 3).trans rfl
     have hcz27_4 : w23.cell? ⟨gb135, 4, none⟩ = some (.int .i64 a0_4) := (blk_cell BK135.out 4).trans rfl
     have hcz27_5 : w23.cell? ⟨gb135, 5, none⟩ = some (.int .i32 a0_5) := (blk_cell BK135.out 5).trans rfl
     have hcz27_6 : w23.cell? ⟨gb135, 6, none⟩ = some (.string a0_6) := (blk_cell BK135.out 6).trans rfl
     have hfz27_0 := blk_frozen BK135.out 0
     have hfz27_1 := blk_frozen BK135.out 1
     have hfz27_2 := blk_frozen BK135.out 2
     have hfz27_3 := blk_frozen BK135.out 3
     have hfz27_4 := blk_frozen BK135.out 4
     have hfz27_5 := blk_frozen BK135.out 5
     have hfz27_6 := blk_frozen BK135.out 6
     go_wp2
     go_meet
     case rel => exact ⟨_, (true), (by rfl), H', ⟨by omega⟩, ⟨by (with_reducible repeat (refine blk_drewN ?_ _)); exact BK135.out⟩, ⟨by repeat ((with_reducible first | exact HB.out | apply pw_below_drewN))⟩⟩
    ·rw [if_neg c26] at H
     have c26b0 : decide (a0_1 < 1) = false := decide_eq_false c26
     clear c26
     by_cases c28 : a0_1 > 30
     ·rw [if_pos c28] at H
      have c28b0 : decide (30 < a0_1) = true := decide_eq_true c28
      clear c28
      have H' := Aside0.mk H
      clear H
      have hcz29_0 : w23.cell? ⟨gb135, 0, none⟩ = some (.int .i64 a0_0) := (blk_cell BK135.out 0).trans rfl
      have hcz29_1 : w23.cell? ⟨gb135, 1, none⟩ = some (.int .i64 a0_1) := (blk_cell BK135.out 1).trans rfl
      have hcz29_2 : w23.cell? ⟨gb135, 2, none⟩ = some (.int .i64 a0_2) := (blk_cell BK135.out 2).trans rfl
      have hcz29_3 : w23.cell? ⟨gb135, 3, none⟩ = some (.int .i64 a0_3) := (blk_cell BK135.out 3).trans rfl
      have hcz29_4 : w23.cell? ⟨gb135, 4, none⟩ = some (.int .i64 a0_4) := (blk_cell BK135.out 4).trans rfl
      have hcz29_5 : w23.cell? ⟨gb135, 5, none⟩ = some (.int .i32 a0_5) := (blk_cell BK135.out 5).trans rfl
      have hcz29_6 : w23.cell? ⟨gb135, 6, none⟩ = some (.string a0_6) := (blk_cell BK135.out 6).trans rfl
      have hfz29_0 := blk_frozen BK135.out 0
      have hfz29_1 := blk_frozen BK135.out 1
      have hfz29_2 := blk_frozen BK135.out 2
      have hfz29_3 := blk_frozen BK135.out 3
      have hfz29_4 := blk_frozen BK135.out 4
      have hfz29_5 := blk_frozen BK135.out 5
      have hfz29_6 := blk_frozen BK135.out 6
      go_wp2
      go_meet
      case rel => exact ⟨_, (true), (by rfl), H', ⟨by omega⟩, ⟨by (with_reducible repeat (refine blk_drewN ?_ _)); exact BK135.out⟩, ⟨by repeat ((with_reducible first | exact HB.out | apply pw_below_drewN))⟩⟩
     ·rw [if_neg c28] at H
      have c28b0 : decide (30 < a0_1) = false := decide_eq_false c28
      clear c28
      replace H := Option.bind_eq_some_iff.mp H
      obtain ⟨t138, A300, H⟩ := H
      replace H : (brazierref17_MayLine.j0 k t137 (!t138) a0_0 a0_1 a0_2 a0_3 a0_4 a0_5 a0_6) = some r := H
      have A30 := Aside0.mk A300
      clear A300
      have H' := Aside0.mk H
      clear H
      have hcz31_0 : w23.cell? ⟨gb135, 0, none⟩ = some (.int .i64 a0_0) := (blk_cell BK135.out 0).trans rfl
      have hcz31_1 : w23.cell? ⟨gb135, 1, none⟩ = some (.int .i64 a0_1) := (blk_cell BK135.out 1).trans rfl
      have hcz31_2 : w23.cell? ⟨gb135, 2, none⟩ = some (.int .i64 a0_2) := (blk_cell BK135.out 2).trans rfl
      have hcz31_3 : w23.cell? ⟨gb135, 3, none⟩ = some (.int .i64 a0_3) := (blk_cell BK135.out 3).trans rfl
      have hcz31_4 : w23.cell? ⟨gb135, 4, none⟩ = some (.int .i64 a0_4) := (blk_cell BK135.out 4).trans rfl
      have hcz31_5 : w23.cell? ⟨gb135, 5, none⟩ = some (.int .i32 a0_5) := (blk_cell BK135.out 5).trans rfl
      have hcz31_6 : w23.cell? ⟨gb135, 6, none⟩ = some (.string a0_6) := (blk_cell BK135.out 6).trans rfl
      have hfz31_0 := blk_frozen BK135.out 0
      have hfz31_1 := blk_frozen BK135.out 1
      have hfz31_2 := blk_frozen BK135.out 2
      have hfz31_3 := blk_frozen BK135.out 3
      have hfz31_4 := blk_frozen BK135.out 4
      have hfz31_5 := blk_frozen BK135.out 5
      have hfz31_6 := blk_frozen BK135.out 6
      go_wp2_with ((go_at_call 24; (with_reducible refine (brazierref17_num.calls k a0_1 a0_5 t138 _ A30.out).mono ?_); rintro e w' ⟨rfl, ⟨nd, rfl⟩⟩))
      go_meet
      case rel => exact ⟨_, (!t138), (by rfl), H', ⟨by omega⟩, ⟨by (with_reducible repeat (refine blk_drewN ?_ _)); exact BK135.out⟩, ⟨by repeat ((with_reducible first | exact HB.out | apply pw_below_drewN))⟩⟩
   ·rw [if_neg c25] at H
    have c25b0 : (a0_0 == 2) = false := beq_eq_false_iff_ne.mpr c25
    have c25b1 : (a0_0 != 2) = true := bne_iff_ne.mpr c25
    have H' := Aside0.mk H
    clear H
    have hcz32_0 : w23.cell? ⟨gb135, 0, none⟩ = some (.int .i64 a0_0) := (blk_cell BK135.out 0).trans rfl
    have hcz32_1 : w23.cell? ⟨gb135, 1, none⟩ = some (.int .i64 a0_1) := (blk_cell BK135.out 1).trans rfl
    have hcz32_2 : w23.cell? ⟨gb135, 2, none⟩ = some (.int .i64 a0_2) := (blk_cell BK135.out 2).trans rfl
    have hcz32_3 : w23.cell? ⟨gb135, 3, none⟩ = some (.int .i64 a0_3) := (blk_cell BK135.out 3).trans rfl
    have hcz32_4 : w23.cell? ⟨gb135, 4, none⟩ = some (.int .i64 a0_4) := (blk_cell BK135.out 4).trans rfl
    have hcz32_5 : w23.cell? ⟨gb135, 5, none⟩ = some (.int .i32 a0_5) := (blk_cell BK135.out 5).trans rfl
    have hcz32_6 : w23.cell? ⟨gb135, 6, none⟩ = some (.string a0_6) := (blk_cell BK135.out 6).trans rfl
    have hfz32_0 := blk_frozen BK135.out 0
    have hfz32_1 := blk_frozen BK135.out 1
    have hfz32_2 := blk_frozen BK135.out 2
    have hfz32_3 := blk_frozen BK135.out 3
    have hfz32_4 := blk_frozen BK135.out 4
    have hfz32_5 := blk_frozen BK135.out 5
    have hfz32_6 := blk_frozen BK135.out 6
    go_wp2
    go_meet
    case rel => exact ⟨_, (true), (by rfl), H', ⟨by omega⟩, ⟨by (with_reducible repeat (refine blk_drewN ?_ _)); exact BK135.out⟩, ⟨by repeat ((with_reducible first | exact HB.out | apply pw_below_drewN))⟩⟩
  case rest =>
   clear HC22 c2 c2b0 c2b1 hcz24_0 hcz24_1 hcz24_2 hcz24_3 hcz24_4 hcz24_5 hcz24_6 hfz24_0 hfz24_1 hfz24_2 hfz24_3 hfz24_4 hfz24_5 hfz24_6
   obtain ⟨kq, x58_21, rfl, HA, HJ21, BK135, HB⟩ := hcut
   cases kq with
   | zero => exact absurd HA.out (by simp [brazierref17_MayLine.j0])
   | succ kj21 =>
    have H := HA.out
    clear HA
    simp only [brazierref17_MayLine.j0] at H
    by_cases c33 : x58_21 = true
    ·subst c33
     have H1 : (some false) = some r := by rw [if_pos rfl] at H; exact H
     clear H
     have H := H1
     clear H1
     obtain rfl := Option.some.inj H
     go_wp2
     go_ret
     exact ⟨by rfl, by repeat ((with_reducible exact HB.out))⟩
    ·replace c33 := Bool.eq_false_iff.mpr c33
     subst c33
     have H1 : ((brazierref17_has.f kj21 t137 68).bind fun t139 => ((brazierref17_reg.f t139 a0_2).bind fun t140 => (if t140 = true then ((brazierref17_has.f kj21 t137 65).bind fun t141 => (if t141 = true then ((brazierref17_reg.f true a0_3).bind fun t142 => (if t142 = true then ((brazierref17_has.f kj21 t137 66).bind fun t143 => ((brazierref17_reg.f t143 a0_4).bind fun t144 => (brazierref17_MayLine.j1 kj21 (!t144) a0_0 a0_1 a0_2 a0_3 a0_4 a0_5 a0_6))) else (brazierref17_MayLine.j1 kj21 true a0_0 a0_1 a0_2 a0_3 a0_4 a0_5 a0_6))) else ((brazierref17_has.f kj21 t137 80).bind fun t145 => ((brazierref17_reg.f t145 a0_3).bind fun t146 => (if t146 = true then ((brazierref17_has.f kj21 t137 66).bind fun t147 => ((brazierref17_reg.f t147 a0_4).bind fun t148 => (brazierref17_MayLine.j1 kj21 (!t148) a0_0 a0_1 a0_2 a0_3 a0_4 a0_5 a0_6))) else (brazierref17_MayLine.j1 kj21 true a0_0 a0_1 a0_2 a0_3 a0_4 a0_5 a0_6)))))) else (brazierref17_MayLine.j1 kj21 true a0_0 a0_1 a0_2 a0_3 a0_4 a0_5 a0_6)))) = some r := by rw [if_neg (show ¬ (false = true) by decide)] at H; exact H
     clear H
     have H := H1
     clear H1
     have HC34 := Aside0.mk H
     clear H
     go_upto_region 6 with (fail)
     go_cut [84] (fun v84 wc => ∃ (kq : Nat) (x84_33 : Bool), v84 = .bool x84_33 ∧ Aside0 (brazierref17_MayLine.j1 kq x84_33 a0_0 a0_1 a0_2 a0_3 a0_4 a0_5 a0_6 = some r) ∧ Aside0 (kq ≤ kj21) ∧ Aside0 (wc.heap[gb135]? = some (.cells #[.int .i64 a0_0, .int .i64 a0_1, .int .i64 a0_2, .int .i64 a0_3, .int .i64 a0_4, .int .i32 a0_5, .string a0_6] 23 (0, 0))) ∧ Aside0 (Below w.heap.size w wc))
     case first =>
      have H := HC34.out
      clear HC34
      replace H := Option.bind_eq_some_iff.mp H
      obtain ⟨t139, A350, H⟩ := H
      replace H : ((brazierref17_reg.f t139 a0_2).bind fun t140 => (if t140 = true then ((brazierref17_has.f kj21 t137 65).bind fun t141 => (if t141 = true then ((brazierref17_reg.f true a0_3).bind fun t142 => (if t142 = true then ((brazierref17_has.f kj21 t137 66).bind fun t143 => ((brazierref17_reg.f t143 a0_4).bind fun t144 => (brazierref17_MayLine.j1 kj21 (!t144) a0_0 a0_1 a0_2 a0_3 a0_4 a0_5 a0_6))) else (brazierref17_MayLine.j1 kj21 true a0_0 a0_1 a0_2 a0_3 a0_4 a0_5 a0_6))) else ((brazierref17_has.f kj21 t137 80).bind fun t145 => ((brazierref17_reg.f t145 a0_3).bind fun t146 => (if t146 = true then ((brazierref17_has.f kj21 t137 66).bind fun t147 => ((brazierref17_reg.f t147 a0_4).bind fun t148 => (brazierref17_MayLine.j1 kj21 (!t148) a0_0 a0_1 a0_2 a0_3 a0_4 a0_5 a0_6))) else (brazierref17_MayLine.j1 kj21 true a0_0 a0_1 a0_2 a0_3 a0_4 a0_5 a0_6)))))) else (brazierref17_MayLine.j1 kj21 true a0_0 a0_1 a0_2 a0_3 a0_4 a0_5 a0_6))) = some r := H
      have A35 := Aside0.mk A350
      clear A350
      replace H := Option.bind_eq_some_iff.mp H
      obtain ⟨t140, A360, H⟩ := H
      replace H : (if t140 = true then ((brazierref17_has.f kj21 t137 65).bind fun t141 => (if t141 = true then ((brazierref17_reg.f true a0_3).bind fun t142 => (if t142 = true then ((brazierref17_has.f kj21 t137 66).bind fun t143 => ((brazierref17_reg.f t143 a0_4).bind fun t144 => (brazierref17_MayLine.j1 kj21 (!t144) a0_0 a0_1 a0_2 a0_3 a0_4 a0_5 a0_6))) else (brazierref17_MayLine.j1 kj21 true a0_0 a0_1 a0_2 a0_3 a0_4 a0_5 a0_6))) else ((brazierref17_has.f kj21 t137 80).bind fun t145 => ((brazierref17_reg.f t145 a0_3).bind fun t146 => (if t146 = true then ((brazierref17_has.f kj21 t137 66).bind fun t147 => ((brazierref17_reg.f t147 a0_4).bind fun t148 => (brazierref17_MayLine.j1 kj21 (!t148) a0_0 a0_1 a0_2 a0_3 a0_4 a0_5 a0_6))) else (brazierref17_MayLine.j1 kj21 true a0_0 a0_1 a0_2 a0_3 a0_4 a0_5 a0_6)))))) else (brazierref17_MayLine.j1 kj21 true a0_0 a0_1 a0_2 a0_3 a0_4 a0_5 a0_6)) = some r := H
      have A36 := Aside0.mk A360
      clear A360
      by_cases c37 : t140 = true
      ·subst c37
       have H1 : ((brazierref17_has.f kj21 t137 65).bind fun t141 => (if t141 = true then ((brazierref17_reg.f true a0_3).bind fun t142 => (if t142 = true then ((brazierref17_has.f kj21 t137 66).bind fun t143 => ((brazierref17_reg.f t143 a0_4).bind fun t144 => (brazierref17_MayLine.j1 kj21 (!t144) a0_0 a0_1 a0_2 a0_3 a0_4 a0_5 a0_6))) else (brazierref17_MayLine.j1 kj21 true a0_0 a0_1 a0_2 a0_3 a0_4 a0_5 a0_6))) else ((brazierref17_has.f kj21 t137 80).bind fun t145 => ((brazierref17_reg.f t145 a0_3).bind fun t146 => (if t146 = true then ((brazierref17_has.f kj21 t137 66).bind fun t147 => ((brazierref17_reg.f t147 a0_4).bind fun t148 => (brazierref17_MayLine.j1 kj21 (!t148) a0_0 a0_1 a0_2 a0_3 a0_4 a0_5 a0_6))) else (brazierref17_MayLine.j1 kj21 true a0_0 a0_1 a0_2 a0_3 a0_4 a0_5 a0_6)))))) = some r := by rw [if_pos rfl] at H; exact H
       clear H
       have H := H1
       clear H1
       replace H := Option.bind_eq_some_iff.mp H
       obtain ⟨t141, A380, H⟩ := H
       replace H : (if t141 = true then ((brazierref17_reg.f true a0_3).bind fun t142 => (if t142 = true then ((brazierref17_has.f kj21 t137 66).bind fun t143 => ((brazierref17_reg.f t143 a0_4).bind fun t144 => (brazierref17_MayLine.j1 kj21 (!t144) a0_0 a0_1 a0_2 a0_3 a0_4 a0_5 a0_6))) else (brazierref17_MayLine.j1 kj21 true a0_0 a0_1 a0_2 a0_3 a0_4 a0_5 a0_6))) else ((brazierref17_has.f kj21 t137 80).bind fun t145 => ((brazierref17_reg.f t145 a0_3).bind fun t146 => (if t146 = true then ((brazierref17_has.f kj21 t137 66).bind fun t147 => ((brazierref17_reg.f t147 a0_4).bind fun t148 => (brazierref17_MayLine.j1 kj21 (!t148) a0_0 a0_1 a0_2 a0_3 a0_4 a0_5 a0_6))) else (brazierref17_MayLine.j1 kj21 true a0_0 a0_1 a0_2 a0_3 a0_4 a0_5 a0_6))))) = some r := H
       have A38 := Aside0.mk A380
       clear A380
       by_cases c39 : t141 = true
       ·subst c39
        have H1 : ((brazierref17_reg.f true a0_3).bind fun t142 => (if t142 = true then ((brazierref17_has.f kj21 t137 66).bind fun t143 => ((brazierref17_reg.f t143 a0_4).bind fun t144 => (brazierref17_MayLine.j1 kj21 (!t144) a0_0 a0_1 a0_2 a0_3 a0_4 a0_5 a0_6))) else (brazierref17_MayLine.j1 kj21 true a0_0 a0_1 a0_2 a0_3 a0_4 a0_5 a0_6))) = some r := by rw [if_pos rfl] at H; exact H
        clear H
        have H := H1
        clear H1
        replace H := Option.bind_eq_some_iff.mp H
        obtain ⟨t142, A400, H⟩ := H
        replace H : (if t142 = true then ((brazierref17_has.f kj21 t137 66).bind fun t143 => ((brazierref17_reg.f t143 a0_4).bind fun t144 => (brazierref17_MayLine.j1 kj21 (!t144) a0_0 a0_1 a0_2 a0_3 a0_4 a0_5 a0_6))) else (brazierref17_MayLine.j1 kj21 true a0_0 a0_1 a0_2 a0_3 a0_4 a0_5 a0_6)) = some r := H
        have A40 := Aside0.mk A400
        clear A400
        by_cases c41 : t142 = true
        ·subst c41
         have H1 : ((brazierref17_has.f kj21 t137 66).bind fun t143 => ((brazierref17_reg.f t143 a0_4).bind fun t144 => (brazierref17_MayLine.j1 kj21 (!t144) a0_0 a0_1 a0_2 a0_3 a0_4 a0_5 a0_6))) = some r := by rw [if_pos rfl] at H; exact H
         clear H
         have H := H1
         clear H1
         replace H := Option.bind_eq_some_iff.mp H
         obtain ⟨t143, A420, H⟩ := H
         replace H : ((brazierref17_reg.f t143 a0_4).bind fun t144 => (brazierref17_MayLine.j1 kj21 (!t144) a0_0 a0_1 a0_2 a0_3 a0_4 a0_5 a0_6)) = some r := H
         have A42 := Aside0.mk A420
         clear A420
         replace H := Option.bind_eq_some_iff.mp H
         obtain ⟨t144, A430, H⟩ := H
         replace H : (brazierref17_MayLine.j1 kj21 (!t144) a0_0 a0_1 a0_2 a0_3 a0_4 a0_5 a0_6) = some r := H
         have A43 := Aside0.mk A430
         clear A430
         have H' := Aside0.mk H
         clear H
         have hcz44_0 : wc.cell? ⟨gb135, 0, none⟩ = some (.int .i64 a0_0) := (blk_cell BK135.out 0).trans rfl
         have hcz44_1 : wc.cell? ⟨gb135, 1, none⟩ = some (.int .i64 a0_1) := (blk_cell BK135.out 1).trans rfl
         have hcz44_2 : wc.cell? ⟨gb135, 2, none⟩ = some (.int .i64 a0_2) := (blk_cell BK135.out 2).trans rfl
         have hcz44_3 : wc.cell? ⟨gb135, 3, none⟩ = some (.int .i64 a0_3) := (blk_cell BK135.out 3).trans rfl
         have hcz44_4 : wc.cell? ⟨gb135, 4, none⟩ = some (.int .i64 a0_4) := (blk_cell BK135.out 4).trans rfl
         have hcz44_5 : wc.cell? ⟨gb135, 5, none⟩ = some (.int .i32 a0_5) := (blk_cell BK135.out 5).trans rfl
         have hcz44_6 : wc.cell? ⟨gb135, 6, none⟩ = some (.string a0_6) := (blk_cell BK135.out 6).trans rfl
         have hfz44_0 := blk_frozen BK135.out 0
         have hfz44_1 := blk_frozen BK135.out 1
         have hfz44_2 := blk_frozen BK135.out 2
         have hfz44_3 := blk_frozen BK135.out 3
         have hfz44_4 := blk_frozen BK135.out 4
         have hfz44_5 := blk_frozen BK135.out 5
         have hfz44_6 := blk_frozen BK135.out 6
         go_wp2_with (fail)
         repeat (go_quiet (first | (go_at_call 26; (with_reducible refine (brazierref17_has.calls kj21 t137 68 t139 _ A35.out).mono ?_); rintro e w' ⟨rfl, ⟨nd, rfl⟩⟩; (try exact ⟨rfl, xdn⟩)) | (go_at_call 25; (with_reducible refine (brazierref17_reg.calls t139 a0_2 true _ A36.out).mono ?_); rintro e w' ⟨rfl, ⟨nd, rfl⟩⟩; (try exact ⟨rfl, xdn⟩)) | (go_at_call 26; (with_reducible refine (brazierref17_has.calls kj21 t137 65 true _ A38.out).mono ?_); rintro e w' ⟨rfl, ⟨nd, rfl⟩⟩; (try exact ⟨rfl, xdn⟩)) | (go_at_call 25; (with_reducible refine (brazierref17_reg.calls true a0_3 true _ A40.out).mono ?_); rintro e w' ⟨rfl, ⟨nd, rfl⟩⟩; (try exact ⟨rfl, xdn⟩)) | (go_at_call 26; (with_reducible refine (brazierref17_has.calls kj21 t137 66 t143 _ A42.out).mono ?_); rintro e w' ⟨rfl, ⟨nd, rfl⟩⟩; (try exact ⟨rfl, xdn⟩)) | (go_at_call 25; (with_reducible refine (brazierref17_reg.calls t143 a0_4 t144 _ A43.out).mono ?_); rintro e w' ⟨rfl, ⟨nd, rfl⟩⟩; (try exact ⟨rfl, xdn⟩))); try go_wp2_with (fail))
         go_meet
         case rel => exact ⟨_, (!t144), (by rfl), H', ⟨by have := HJ21.out; omega⟩, ⟨by (with_reducible repeat (refine blk_drewN ?_ _)); exact BK135.out⟩, ⟨by repeat ((with_reducible first | exact HB.out | apply pw_below_drewN))⟩⟩
        ·replace c41 := Bool.eq_false_iff.mpr c41
         subst c41
         have H1 : (brazierref17_MayLine.j1 kj21 true a0_0 a0_1 a0_2 a0_3 a0_4 a0_5 a0_6) = some r := by rw [if_neg (show ¬ (false = true) by decide)] at H; exact H
         clear H
         have H := H1
         clear H1
         have H' := Aside0.mk H
         clear H
         have hcz45_0 : wc.cell? ⟨gb135, 0, none⟩ = some (.int .i64 a0_0) := (blk_cell BK135.out 0).trans rfl
         have hcz45_1 : wc.cell? ⟨gb135, 1, none⟩ = some (.int .i64 a0_1) := (blk_cell BK135.out 1).trans rfl
         have hcz45_2 : wc.cell? ⟨gb135, 2, none⟩ = some (.int .i64 a0_2) := (blk_cell BK135.out 2).trans rfl
         have hcz45_3 : wc.cell? ⟨gb135, 3, none⟩ = some (.int .i64 a0_3) := (blk_cell BK135.out 3).trans rfl
         have hcz45_4 : wc.cell? ⟨gb135, 4, none⟩ = some (.int .i64 a0_4) := (blk_cell BK135.out 4).trans rfl
         have hcz45_5 : wc.cell? ⟨gb135, 5, none⟩ = some (.int .i32 a0_5) := (blk_cell BK135.out 5).trans rfl
         have hcz45_6 : wc.cell? ⟨gb135, 6, none⟩ = some (.string a0_6) := (blk_cell BK135.out 6).trans rfl
         have hfz45_0 := blk_frozen BK135.out 0
         have hfz45_1 := blk_frozen BK135.out 1
         have hfz45_2 := blk_frozen BK135.out 2
         have hfz45_3 := blk_frozen BK135.out 3
         have hfz45_4 := blk_frozen BK135.out 4
         have hfz45_5 := blk_frozen BK135.out 5
         have hfz45_6 := blk_frozen BK135.out 6
         go_wp2_with (fail)
         repeat (go_quiet (first | (go_at_call 26; (with_reducible refine (brazierref17_has.calls kj21 t137 68 t139 _ A35.out).mono ?_); rintro e w' ⟨rfl, ⟨nd, rfl⟩⟩; (try exact ⟨rfl, xdn⟩)) | (go_at_call 25; (with_reducible refine (brazierref17_reg.calls t139 a0_2 true _ A36.out).mono ?_); rintro e w' ⟨rfl, ⟨nd, rfl⟩⟩; (try exact ⟨rfl, xdn⟩)) | (go_at_call 26; (with_reducible refine (brazierref17_has.calls kj21 t137 65 true _ A38.out).mono ?_); rintro e w' ⟨rfl, ⟨nd, rfl⟩⟩; (try exact ⟨rfl, xdn⟩)) | (go_at_call 25; (with_reducible refine (brazierref17_reg.calls true a0_3 false _ A40.out).mono ?_); rintro e w' ⟨rfl, ⟨nd, rfl⟩⟩; (try exact ⟨rfl, xdn⟩))); try go_wp2_with (fail))
         go_meet
         case rel => exact ⟨_, (true), (by rfl), H', ⟨by have := HJ21.out; omega⟩, ⟨by (with_reducible repeat (refine blk_drewN ?_ _)); exact BK135.out⟩, ⟨by repeat ((with_reducible first | exact HB.out | apply pw_below_drewN))⟩⟩
       ·replace c39 := Bool.eq_false_iff.mpr c39
        subst c39
        have H1 : ((brazierref17_has.f kj21 t137 80).bind fun t145 => ((brazierref17_reg.f t145 a0_3).bind fun t146 => (if t146 = true then ((brazierref17_has.f kj21 t137 66).bind fun t147 => ((brazierref17_reg.f t147 a0_4).bind fun t148 => (brazierref17_MayLine.j1 kj21 (!t148) a0_0 a0_1 a0_2 a0_3 a0_4 a0_5 a0_6))) else (brazierref17_MayLine.j1 kj21 true a0_0 a0_1 a0_2 a0_3 a0_4 a0_5 a0_6)))) = some r := by rw [if_neg (show ¬ (false = true) by decide)] at H; exact H
        clear H
        have H := H1
        clear H1
        replace H := Option.bind_eq_some_iff.mp H
        obtain ⟨t145, A460, H⟩ := H
        replace H : ((brazierref17_reg.f t145 a0_3).bind fun t146 => (if t146 = true then ((brazierref17_has.f kj21 t137 66).bind fun t147 => ((brazierref17_reg.f t147 a0_4).bind fun t148 => (brazierref17_MayLine.j1 kj21 (!t148) a0_0 a0_1 a0_2 a0_3 a0_4 a0_5 a0_6))) else (brazierref17_MayLine.j1 kj21 true a0_0 a0_1 a0_2 a0_3 a0_4 a0_5 a0_6))) = some r := H
        have A46 := Aside0.mk A460
        clear A460
        replace H := Option.bind_eq_some_iff.mp H
        obtain ⟨t146, A470, H⟩ := H
        replace H : (if t146 = true then ((brazierref17_has.f kj21 t137 66).bind fun t147 => ((brazierref17_reg.f t147 a0_4).bind fun t148 => (brazierref17_MayLine.j1 kj21 (!t148) a0_0 a0_1 a0_2 a0_3 a0_4 a0_5 a0_6))) else (brazierref17_MayLine.j1 kj21 true a0_0 a0_1 a0_2 a0_3 a0_4 a0_5 a0_6)) = some r := H
        have A47 := Aside0.mk A470
        clear A470
        by_cases c48 : t146 = true
        ·subst c48
         have H1 : ((brazierref17_has.f kj21 t137 66).bind fun t147 => ((brazierref17_reg.f t147 a0_4).bind fun t148 => (brazierref17_MayLine.j1 kj21 (!t148) a0_0 a0_1 a0_2 a0_3 a0_4 a0_5 a0_6))) = some r := by rw [if_pos rfl] at H; exact H
         clear H
         have H := H1
         clear H1
         replace H := Option.bind_eq_some_iff.mp H
         obtain ⟨t147, A490, H⟩ := H
         replace H : ((brazierref17_reg.f t147 a0_4).bind fun t148 => (brazierref17_MayLine.j1 kj21 (!t148) a0_0 a0_1 a0_2 a0_3 a0_4 a0_5 a0_6)) = some r := H
         have A49 := Aside0.mk A490
         clear A490
         replace H := Option.bind_eq_some_iff.mp H
         obtain ⟨t148, A500, H⟩ := H
         replace H : (brazierref17_MayLine.j1 kj21 (!t148) a0_0 a0_1 a0_2 a0_3 a0_4 a0_5 a0_6) = some r := H
         have A50 := Aside0.mk A500
         clear A500
         have H' := Aside0.mk H
         clear H
         have hcz51_0 : wc.cell? ⟨gb135, 0, none⟩ = some (.int .i64 a0_0) := (blk_cell BK135.out 0).trans rfl
         have hcz51_1 : wc.cell? ⟨gb135, 1, none⟩ = some (.int .i64 a0_1) := (blk_cell BK135.out 1).trans rfl
         have hcz51_2 : wc.cell? ⟨gb135, 2, none⟩ = some (.int .i64 a0_2) := (blk_cell BK135.out 2).trans rfl
         have hcz51_3 : wc.cell? ⟨gb135, 3, none⟩ = some (.int .i64 a0_3) := (blk_cell BK135.out 3).trans rfl
         have hcz51_4 : wc.cell? ⟨gb135, 4, none⟩ = some (.int .i64 a0_4) := (blk_cell BK135.out 4).trans rfl
         have hcz51_5 : wc.cell? ⟨gb135, 5, none⟩ = some (.int .i32 a0_5) := (blk_cell BK135.out 5).trans rfl
         have hcz51_6 : wc.cell? ⟨gb135, 6, none⟩ = some (.string a0_6) := (blk_cell BK135.out 6).trans rfl
         have hfz51_0 := blk_frozen BK135.out 0
         have hfz51_1 := blk_frozen BK135.out 1
         have hfz51_2 := blk_frozen BK135.out 2
         have hfz51_3 := blk_frozen BK135.out 3
         have hfz51_4 := blk_frozen BK135.out 4
         have hfz51_5 := blk_frozen BK135.out 5
         have hfz51_6 := blk_frozen BK135.out 6
         go_wp2_with (fail)
         repeat (go_quiet (first | (go_at_call 26; (with_reducible refine (brazierref17_has.calls kj21 t137 68 t139 _ A35.out).mono ?_); rintro e w' ⟨rfl, ⟨nd, rfl⟩⟩; (try exact ⟨rfl, xdn⟩)) | (go_at_call 25; (with_reducible refine (brazierref17_reg.calls t139 a0_2 true _ A36.out).mono ?_); rintro e w' ⟨rfl, ⟨nd, rfl⟩⟩; (try exact ⟨rfl, xdn⟩)) | (go_at_call 26; (with_reducible refine (brazierref17_has.calls kj21 t137 65 false _ A38.out).mono ?_); rintro e w' ⟨rfl, ⟨nd, rfl⟩⟩; (try exact ⟨rfl, xdn⟩)) | (go_at_call 26; (with_reducible refine (brazierref17_has.calls kj21 t137 80 t145 _ A46.out).mono ?_); rintro e w' ⟨rfl, ⟨nd, rfl⟩⟩; (try exact ⟨rfl, xdn⟩)) | (go_at_call 25; (with_reducible refine (brazierref17_reg.calls t145 a0_3 true _ A47.out).mono ?_); rintro e w' ⟨rfl, ⟨nd, rfl⟩⟩; (try exact ⟨rfl, xdn⟩)) | (go_at_call 26; (with_reducible refine (brazierref17_has.calls kj21 t137 66 t147 _ A49.out).mono ?_); rintro e w' ⟨rfl, ⟨nd, rfl⟩⟩; (try exact ⟨rfl, xdn⟩)) | (go_at_call 25; (with_reducible refine (brazierref17_reg.calls t147 a0_4 t148 _ A50.out).mono ?_); rintro e w' ⟨rfl, ⟨nd, rfl⟩⟩; (try exact ⟨rfl, xdn⟩))); try go_wp2_with (fail))
         go_meet
         case rel => exact ⟨_, (!t148), (by rfl), H', ⟨by have := HJ21.out; omega⟩, ⟨by (with_reducible repeat (refine blk_drewN ?_ _)); exact BK135.out⟩, ⟨by repeat ((with_reducible first | exact HB.out | apply pw_below_drewN))⟩⟩
        ·replace c48 := Bool.eq_false_iff.mpr c48
         subst c48
         have H1 : (brazierref17_MayLine.j1 kj21 true a0_0 a0_1 a0_2 a0_3 a0_4 a0_5 a0_6) = some r := by rw [if_neg (show ¬ (false = true) by decide)] at H; exact H
         clear H
         have H := H1
         clear H1
         have H' := Aside0.mk H
         clear H
         have hcz52_0 : wc.cell? ⟨gb135, 0, none⟩ = some (.int .i64 a0_0) := (blk_cell BK135.out 0).trans rfl
         have hcz52_1 : wc.cell? ⟨gb135, 1, none⟩ = some (.int .i64 a0_1) := (blk_cell BK135.out 1).trans rfl
         have hcz52_2 : wc.cell? ⟨gb135, 2, none⟩ = some (.int .i64 a0_2) := (blk_cell BK135.out 2).trans rfl
         have hcz52_3 : wc.cell? ⟨gb135, 3, none⟩ = some (.int .i64 a0_3) := (blk_cell BK135.out 3).trans rfl
         have hcz52_4 : wc.cell? ⟨gb135, 4, none⟩ = some (.int .i64 a0_4) := (blk_cell BK135.out 4).trans rfl
         have hcz52_5 : wc.cell? ⟨gb135, 5, none⟩ = some (.int .i32 a0_5) := (blk_cell BK135.out 5).trans rfl
         have hcz52_6 : wc.cell? ⟨gb135, 6, none⟩ = some (.string a0_6) := (blk_cell BK135.out 6).trans rfl
         have hfz52_0 := blk_frozen BK135.out 0
         have hfz52_1 := blk_frozen BK135.out 1
         have hfz52_2 := blk_frozen BK135.out 2
         have hfz52_3 := blk_frozen BK135.out 3
         have hfz52_4 := blk_frozen BK135.out 4
         have hfz52_5 := blk_frozen BK135.out 5
         have hfz52_6 := blk_frozen BK135.out 6
         go_wp2_with (fail)
         repeat (go_quiet (first | (go_at_call 26; (with_reducible refine (brazierref17_has.calls kj21 t137 68 t139 _ A35.out).mono ?_); rintro e w' ⟨rfl, ⟨nd, rfl⟩⟩; (try exact ⟨rfl, xdn⟩)) | (go_at_call 25; (with_reducible refine (brazierref17_reg.calls t139 a0_2 true _ A36.out).mono ?_); rintro e w' ⟨rfl, ⟨nd, rfl⟩⟩; (try exact ⟨rfl, xdn⟩)) | (go_at_call 26; (with_reducible refine (brazierref17_has.calls kj21 t137 65 false _ A38.out).mono ?_); rintro e w' ⟨rfl, ⟨nd, rfl⟩⟩; (try exact ⟨rfl, xdn⟩)) | (go_at_call 26; (with_reducible refine (brazierref17_has.calls kj21 t137 80 t145 _ A46.out).mono ?_); rintro e w' ⟨rfl, ⟨nd, rfl⟩⟩; (try exact ⟨rfl, xdn⟩)) | (go_at_call 25; (with_reducible refine (brazierref17_reg.calls t145 a0_3 false _ A47.out).mono ?_); rintro e w' ⟨rfl, ⟨nd, rfl⟩⟩; (try exact ⟨rfl, xdn⟩))); try go_wp2_with (fail))
         go_meet
         case rel => exact ⟨_, (true), (by rfl), H', ⟨by have := HJ21.out; omega⟩, ⟨by (with_reducible repeat (refine blk_drewN ?_ _)); exact BK135.out⟩, ⟨by repeat ((with_reducible first | exact HB.out | apply pw_below_drewN))⟩⟩
      ·replace c37 := Bool.eq_false_iff.mpr c37
       subst c37
       have H1 : (brazierref17_MayLine.j1 kj21 true a0_0 a0_1 a0_2 a0_3 a0_4 a0_5 a0_6) = some r := by rw [if_neg (show ¬ (false = true) by decide)] at H; exact H
       clear H
       have H := H1
       clear H1
       have H' := Aside0.mk H
       clear H
       have hcz53_0 : wc.cell? ⟨gb135, 0, none⟩ = some (.int .i64 a0_0) := (blk_cell BK135.out 0).trans rfl
       have hcz53_1 : wc.cell? ⟨gb135, 1, none⟩ = some (.int .i64 a0_1) := (blk_cell BK135.out 1).trans rfl
       have hcz53_2 : wc.cell? ⟨gb135, 2, none⟩ = some (.int .i64 a0_2) := (blk_cell BK135.out 2).trans rfl
       have hcz53_3 : wc.cell? ⟨gb135, 3, none⟩ = some (.int .i64 a0_3) := (blk_cell BK135.out 3).trans rfl
       have hcz53_4 : wc.cell? ⟨gb135, 4, none⟩ = some (.int .i64 a0_4) := (blk_cell BK135.out 4).trans rfl
       have hcz53_5 : wc.cell? ⟨gb135, 5, none⟩ = some (.int .i32 a0_5) := (blk_cell BK135.out 5).trans rfl
       have hcz53_6 : wc.cell? ⟨gb135, 6, none⟩ = some (.string a0_6) := (blk_cell BK135.out 6).trans rfl
       have hfz53_0 := blk_frozen BK135.out 0
       have hfz53_1 := blk_frozen BK135.out 1
       have hfz53_2 := blk_frozen BK135.out 2
       have hfz53_3 := blk_frozen BK135.out 3
       have hfz53_4 := blk_frozen BK135.out 4
       have hfz53_5 := blk_frozen BK135.out 5
       have hfz53_6 := blk_frozen BK135.out 6
       go_wp2_with (fail)
       repeat (go_quiet (first | (go_at_call 26; (with_reducible refine (brazierref17_has.calls kj21 t137 68 t139 _ A35.out).mono ?_); rintro e w' ⟨rfl, ⟨nd, rfl⟩⟩; (try exact ⟨rfl, xdn⟩)) | (go_at_call 25; (with_reducible refine (brazierref17_reg.calls t139 a0_2 false _ A36.out).mono ?_); rintro e w' ⟨rfl, ⟨nd, rfl⟩⟩; (try exact ⟨rfl, xdn⟩))); try go_wp2_with (fail))
       go_meet
       case rel => exact ⟨_, (true), (by rfl), H', ⟨by have := HJ21.out; omega⟩, ⟨by (with_reducible repeat (refine blk_drewN ?_ _)); exact BK135.out⟩, ⟨by repeat ((with_reducible first | exact HB.out | apply pw_below_drewN))⟩⟩
     case rest =>
      clear HC34
      obtain ⟨kq, x84_33, rfl, HA, HJ33, BK135, HB⟩ := hcut
      cases kq with
      | zero => exact absurd HA.out (by simp [brazierref17_MayLine.j1])
      | succ kj33 =>
       have H := HA.out
       clear HA
       simp only [brazierref17_MayLine.j1] at H
       by_cases c54 : x84_33 = true
       ·subst c54
        have H1 : (some false) = some r := by rw [if_pos rfl] at H; exact H
        clear H
        have H := H1
        clear H1
        obtain rfl := Option.some.inj H
        go_wp2
        go_ret
        exact ⟨by rfl, by repeat ((with_reducible exact HB.out))⟩
       ·replace c54 := Bool.eq_false_iff.mpr c54
        subst c54
        have H1 : (if a0_6.toList = ([] : List UInt8) then (some true) else (if a0_1 = 1 then ((brazierref17_IsSym.f kj33 a0_6).bind fun t149 => (if t149 = true then (some (a0_5 == 0)) else (some false))) else (if a0_1 = 2 then ((brazierref17_IsSym.f kj33 a0_6).bind fun t150 => (if t150 = true then (some (a0_5 == 0)) else (some false))) else (if a0_1 = 28 then ((brazierref17_IsSym.f kj33 a0_6).bind fun t151 => (if t151 = true then (some (a0_5 == 0)) else (some false))) else (some false))))) = some r := by rw [if_neg (show ¬ (false = true) by decide)] at H; exact H
        clear H
        have H := H1
        clear H1
        by_cases c55 : a0_6.toList = ([] : List UInt8)
        ·rw [if_pos c55] at H
         have c55b0 : (a0_6.toList == ([] : List UInt8)) = true := beq_iff_eq.mpr c55
         have c55b1 : (a0_6.toList != ([] : List UInt8)) = false := bne_eq_false_iff_eq.mpr c55
         clear c55
         obtain rfl := Option.some.inj H
         have hcz56_0 : wc.cell? ⟨gb135, 0, none⟩ = some (.int .i64 a0_0) := (blk_cell BK135.out 0).trans rfl
         have hcz56_1 : wc.cell? ⟨gb135, 1, none⟩ = some (.int .i64 a0_1) := (blk_cell BK135.out 1).trans rfl
         have hcz56_2 : wc.cell? ⟨gb135, 2, none⟩ = some (.int .i64 a0_2) := (blk_cell BK135.out 2).trans rfl
         have hcz56_3 : wc.cell? ⟨gb135, 3, none⟩ = some (.int .i64 a0_3) := (blk_cell BK135.out 3).trans rfl
         have hcz56_4 : wc.cell? ⟨gb135, 4, none⟩ = some (.int .i64 a0_4) := (blk_cell BK135.out 4).trans rfl
         have hcz56_5 : wc.cell? ⟨gb135, 5, none⟩ = some (.int .i32 a0_5) := (blk_cell BK135.out 5).trans rfl
         have hcz56_6 : wc.cell? ⟨gb135, 6, none⟩ = some (.string a0_6) := (blk_cell BK135.out 6).trans rfl
         have hfz56_0 := blk_frozen BK135.out 0
         have hfz56_1 := blk_frozen BK135.out 1
         have hfz56_2 := blk_frozen BK135.out 2
         have hfz56_3 := blk_frozen BK135.out 3
         have hfz56_4 := blk_frozen BK135.out 4
         have hfz56_5 := blk_frozen BK135.out 5
         have hfz56_6 := blk_frozen BK135.out 6
         go_wp2
         go_ret
         exact ⟨by rfl, by repeat ((with_reducible exact HB.out))⟩
        ·rw [if_neg c55] at H
         have c55b0 : (a0_6.toList == ([] : List UInt8)) = false := beq_eq_false_iff_ne.mpr c55
         have c55b1 : (a0_6.toList != ([] : List UInt8)) = true := bne_iff_ne.mpr c55
         by_cases c57 : a0_1 = 1
         ·rw [if_pos c57] at H
          have c57b0 : (a0_1 == 1) = true := beq_iff_eq.mpr c57
          have c57b1 : (a0_1 != 1) = false := bne_eq_false_iff_eq.mpr c57
          clear c57
          replace H := Option.bind_eq_some_iff.mp H
          obtain ⟨t149, A580, H⟩ := H
          replace H : (if t149 = true then (some (a0_5 == 0)) else (some false)) = some r := H
          have A58 := Aside0.mk A580
          clear A580
          by_cases c59 : t149 = true
          ·subst c59
           have H1 : (some (a0_5 == 0)) = some r := by rw [if_pos rfl] at H; exact H
           clear H
           have H := H1
           clear H1
           obtain rfl := Option.some.inj H
           have hcz60_0 : wc.cell? ⟨gb135, 0, none⟩ = some (.int .i64 a0_0) := (blk_cell BK135.out 0).trans rfl
           have hcz60_1 : wc.cell? ⟨gb135, 1, none⟩ = some (.int .i64 a0_1) := (blk_cell BK135.out 1).trans rfl
           have hcz60_2 : wc.cell? ⟨gb135, 2, none⟩ = some (.int .i64 a0_2) := (blk_cell BK135.out 2).trans rfl
           have hcz60_3 : wc.cell? ⟨gb135, 3, none⟩ = some (.int .i64 a0_3) := (blk_cell BK135.out 3).trans rfl
           have hcz60_4 : wc.cell? ⟨gb135, 4, none⟩ = some (.int .i64 a0_4) := (blk_cell BK135.out 4).trans rfl
           have hcz60_5 : wc.cell? ⟨gb135, 5, none⟩ = some (.int .i32 a0_5) := (blk_cell BK135.out 5).trans rfl
           have hcz60_6 : wc.cell? ⟨gb135, 6, none⟩ = some (.string a0_6) := (blk_cell BK135.out 6).trans rfl
           have hfz60_0 := blk_frozen BK135.out 0
           have hfz60_1 := blk_frozen BK135.out 1
           have hfz60_2 := blk_frozen BK135.out 2
           have hfz60_3 := blk_frozen BK135.out 3
           have hfz60_4 := blk_frozen BK135.out 4
           have hfz60_5 := blk_frozen BK135.out 5
           have hfz60_6 := blk_frozen BK135.out 6
           go_wp2_with ((go_at_call 22; (with_reducible refine (brazierref17_IsSym.calls kj33 a0_6 true _ A58.out).mono ?_); rintro e w' ⟨rfl, ⟨nd, rfl⟩⟩))
           go_ret
           exact ⟨by rfl, by repeat ((with_reducible first | exact HB.out | apply pw_below_drewN))⟩
          ·replace c59 := Bool.eq_false_iff.mpr c59
           subst c59
           have H1 : (some false) = some r := by rw [if_neg (show ¬ (false = true) by decide)] at H; exact H
           clear H
           have H := H1
           clear H1
           obtain rfl := Option.some.inj H
           have hcz61_0 : wc.cell? ⟨gb135, 0, none⟩ = some (.int .i64 a0_0) := (blk_cell BK135.out 0).trans rfl
           have hcz61_1 : wc.cell? ⟨gb135, 1, none⟩ = some (.int .i64 a0_1) := (blk_cell BK135.out 1).trans rfl
           have hcz61_2 : wc.cell? ⟨gb135, 2, none⟩ = some (.int .i64 a0_2) := (blk_cell BK135.out 2).trans rfl
           have hcz61_3 : wc.cell? ⟨gb135, 3, none⟩ = some (.int .i64 a0_3) := (blk_cell BK135.out 3).trans rfl
           have hcz61_4 : wc.cell? ⟨gb135, 4, none⟩ = some (.int .i64 a0_4) := (blk_cell BK135.out 4).trans rfl
           have hcz61_5 : wc.cell? ⟨gb135, 5, none⟩ = some (.int .i32 a0_5) := (blk_cell BK135.out 5).trans rfl
           have hcz61_6 : wc.cell? ⟨gb135, 6, none⟩ = some (.string a0_6) := (blk_cell BK135.out 6).trans rfl
           have hfz61_0 := blk_frozen BK135.out 0
           have hfz61_1 := blk_frozen BK135.out 1
           have hfz61_2 := blk_frozen BK135.out 2
           have hfz61_3 := blk_frozen BK135.out 3
           have hfz61_4 := blk_frozen BK135.out 4
           have hfz61_5 := blk_frozen BK135.out 5
           have hfz61_6 := blk_frozen BK135.out 6
           go_wp2_with ((go_at_call 22; (with_reducible refine (brazierref17_IsSym.calls kj33 a0_6 false _ A58.out).mono ?_); rintro e w' ⟨rfl, ⟨nd, rfl⟩⟩))
           go_ret
           exact ⟨by rfl, by repeat ((with_reducible first | exact HB.out | apply pw_below_drewN))⟩
         ·rw [if_neg c57] at H
          have c57b0 : (a0_1 == 1) = false := beq_eq_false_iff_ne.mpr c57
          have c57b1 : (a0_1 != 1) = true := bne_iff_ne.mpr c57
          by_cases c62 : a0_1 = 2
          ·rw [if_pos c62] at H
           have c62b0 : (a0_1 == 2) = true := beq_iff_eq.mpr c62
           have c62b1 : (a0_1 != 2) = false := bne_eq_false_iff_eq.mpr c62
           clear c62
           replace H := Option.bind_eq_some_iff.mp H
           obtain ⟨t150, A630, H⟩ := H
           replace H : (if t150 = true then (some (a0_5 == 0)) else (some false)) = some r := H
           have A63 := Aside0.mk A630
           clear A630
           by_cases c64 : t150 = true
           ·subst c64
            have H1 : (some (a0_5 == 0)) = some r := by rw [if_pos rfl] at H; exact H
            clear H
            have H := H1
            clear H1
            obtain rfl := Option.some.inj H
            have hcz65_0 : wc.cell? ⟨gb135, 0, none⟩ = some (.int .i64 a0_0) := (blk_cell BK135.out 0).trans rfl
            have hcz65_1 : wc.cell? ⟨gb135, 1, none⟩ = some (.int .i64 a0_1) := (blk_cell BK135.out 1).trans rfl
            have hcz65_2 : wc.cell? ⟨gb135, 2, none⟩ = some (.int .i64 a0_2) := (blk_cell BK135.out 2).trans rfl
            have hcz65_3 : wc.cell? ⟨gb135, 3, none⟩ = some (.int .i64 a0_3) := (blk_cell BK135.out 3).trans rfl
            have hcz65_4 : wc.cell? ⟨gb135, 4, none⟩ = some (.int .i64 a0_4) := (blk_cell BK135.out 4).trans rfl
            have hcz65_5 : wc.cell? ⟨gb135, 5, none⟩ = some (.int .i32 a0_5) := (blk_cell BK135.out 5).trans rfl
            have hcz65_6 : wc.cell? ⟨gb135, 6, none⟩ = some (.string a0_6) := (blk_cell BK135.out 6).trans rfl
            have hfz65_0 := blk_frozen BK135.out 0
            have hfz65_1 := blk_frozen BK135.out 1
            have hfz65_2 := blk_frozen BK135.out 2
            have hfz65_3 := blk_frozen BK135.out 3
            have hfz65_4 := blk_frozen BK135.out 4
            have hfz65_5 := blk_frozen BK135.out 5
            have hfz65_6 := blk_frozen BK135.out 6
            go_wp2_with ((go_at_call 22; (with_reducible refine (brazierref17_IsSym.calls kj33 a0_6 true _ A63.out).mono ?_); rintro e w' ⟨rfl, ⟨nd, rfl⟩⟩))
            go_ret
            exact ⟨by rfl, by repeat ((with_reducible first | exact HB.out | apply pw_below_drewN))⟩
           ·replace c64 := Bool.eq_false_iff.mpr c64
            subst c64
            have H1 : (some false) = some r := by rw [if_neg (show ¬ (false = true) by decide)] at H; exact H
            clear H
            have H := H1
            clear H1
            obtain rfl := Option.some.inj H
            have hcz66_0 : wc.cell? ⟨gb135, 0, none⟩ = some (.int .i64 a0_0) := (blk_cell BK135.out 0).trans rfl
            have hcz66_1 : wc.cell? ⟨gb135, 1, none⟩ = some (.int .i64 a0_1) := (blk_cell BK135.out 1).trans rfl
            have hcz66_2 : wc.cell? ⟨gb135, 2, none⟩ = some (.int .i64 a0_2) := (blk_cell BK135.out 2).trans rfl
            have hcz66_3 : wc.cell? ⟨gb135, 3, none⟩ = some (.int .i64 a0_3) := (blk_cell BK135.out 3).trans rfl
            have hcz66_4 : wc.cell? ⟨gb135, 4, none⟩ = some (.int .i64 a0_4) := (blk_cell BK135.out 4).trans rfl
            have hcz66_5 : wc.cell? ⟨gb135, 5, none⟩ = some (.int .i32 a0_5) := (blk_cell BK135.out 5).trans rfl
            have hcz66_6 : wc.cell? ⟨gb135, 6, none⟩ = some (.string a0_6) := (blk_cell BK135.out 6).trans rfl
            have hfz66_0 := blk_frozen BK135.out 0
            have hfz66_1 := blk_frozen BK135.out 1
            have hfz66_2 := blk_frozen BK135.out 2
            have hfz66_3 := blk_frozen BK135.out 3
            have hfz66_4 := blk_frozen BK135.out 4
            have hfz66_5 := blk_frozen BK135.out 5
            have hfz66_6 := blk_frozen BK135.out 6
            go_wp2_with ((go_at_call 22; (with_reducible refine (brazierref17_IsSym.calls kj33 a0_6 false _ A63.out).mono ?_); rintro e w' ⟨rfl, ⟨nd, rfl⟩⟩))
            go_ret
            exact ⟨by rfl, by repeat ((with_reducible first | exact HB.out | apply pw_below_drewN))⟩
          ·rw [if_neg c62] at H
           have c62b0 : (a0_1 == 2) = false := beq_eq_false_iff_ne.mpr c62
           have c62b1 : (a0_1 != 2) = true := bne_iff_ne.mpr c62
           by_cases c67 : a0_1 = 28
           ·rw [if_pos c67] at H
            have c67b0 : (a0_1 == 28) = true := beq_iff_eq.mpr c67
            have c67b1 : (a0_1 != 28) = false := bne_eq_false_iff_eq.mpr c67
            clear c67
            replace H := Option.bind_eq_some_iff.mp H
            obtain ⟨t151, A680, H⟩ := H
            replace H : (if t151 = true then (some (a0_5 == 0)) else (some false)) = some r := H
            have A68 := Aside0.mk A680
            clear A680
            by_cases c69 : t151 = true
            ·subst c69
             have H1 : (some (a0_5 == 0)) = some r := by rw [if_pos rfl] at H; exact H
             clear H
             have H := H1
             clear H1
             obtain rfl := Option.some.inj H
             have hcz70_0 : wc.cell? ⟨gb135, 0, none⟩ = some (.int .i64 a0_0) := (blk_cell BK135.out 0).trans rfl
             have hcz70_1 : wc.cell? ⟨gb135, 1, none⟩ = some (.int .i64 a0_1) := (blk_cell BK135.out 1).trans rfl
             have hcz70_2 : wc.cell? ⟨gb135, 2, none⟩ = some (.int .i64 a0_2) := (blk_cell BK135.out 2).trans rfl
             have hcz70_3 : wc.cell? ⟨gb135, 3, none⟩ = some (.int .i64 a0_3) := (blk_cell BK135.out 3).trans rfl
             have hcz70_4 : wc.cell? ⟨gb135, 4, none⟩ = some (.int .i64 a0_4) := (blk_cell BK135.out 4).trans rfl
             have hcz70_5 : wc.cell? ⟨gb135, 5, none⟩ = some (.int .i32 a0_5) := (blk_cell BK135.out 5).trans rfl
             have hcz70_6 : wc.cell? ⟨gb135, 6, none⟩ = some (.string a0_6) := (blk_cell BK135.out 6).trans rfl
             have hfz70_0 := blk_frozen BK135.out 0
             have hfz70_1 := blk_frozen BK135.out 1
             have hfz70_2 := blk_frozen BK135.out 2
             have hfz70_3 := blk_frozen BK135.out 3
             have hfz70_4 := blk_frozen BK135.out 4
             have hfz70_5 := blk_frozen BK135.out 5
             have hfz70_6 := blk_frozen BK135.out 6
             go_wp2_with ((go_at_call 22; (with_reducible refine (brazierref17_IsSym.calls kj33 a0_6 true _ A68.out).mono ?_); rintro e w' ⟨rfl, ⟨nd, rfl⟩⟩))
             go_ret
             exact ⟨by rfl, by repeat ((with_reducible first | exact HB.out | apply pw_below_drewN))⟩
            ·replace c69 := Bool.eq_false_iff.mpr c69
             subst c69
             have H1 : (some false) = some r := by rw [if_neg (show ¬ (false = true) by decide)] at H; exact H
             clear H
             have H := H1
             clear H1
             obtain rfl := Option.some.inj H
             have hcz71_0 : wc.cell? ⟨gb135, 0, none⟩ = some (.int .i64 a0_0) := (blk_cell BK135.out 0).trans rfl
             have hcz71_1 : wc.cell? ⟨gb135, 1, none⟩ = some (.int .i64 a0_1) := (blk_cell BK135.out 1).trans rfl
             have hcz71_2 : wc.cell? ⟨gb135, 2, none⟩ = some (.int .i64 a0_2) := (blk_cell BK135.out 2).trans rfl
             have hcz71_3 : wc.cell? ⟨gb135, 3, none⟩ = some (.int .i64 a0_3) := (blk_cell BK135.out 3).trans rfl
             have hcz71_4 : wc.cell? ⟨gb135, 4, none⟩ = some (.int .i64 a0_4) := (blk_cell BK135.out 4).trans rfl
             have hcz71_5 : wc.cell? ⟨gb135, 5, none⟩ = some (.int .i32 a0_5) := (blk_cell BK135.out 5).trans rfl
             have hcz71_6 : wc.cell? ⟨gb135, 6, none⟩ = some (.string a0_6) := (blk_cell BK135.out 6).trans rfl
             have hfz71_0 := blk_frozen BK135.out 0
             have hfz71_1 := blk_frozen BK135.out 1
             have hfz71_2 := blk_frozen BK135.out 2
             have hfz71_3 := blk_frozen BK135.out 3
             have hfz71_4 := blk_frozen BK135.out 4
             have hfz71_5 := blk_frozen BK135.out 5
             have hfz71_6 := blk_frozen BK135.out 6
             go_wp2_with ((go_at_call 22; (with_reducible refine (brazierref17_IsSym.calls kj33 a0_6 false _ A68.out).mono ?_); rintro e w' ⟨rfl, ⟨nd, rfl⟩⟩))
             go_ret
             exact ⟨by rfl, by repeat ((with_reducible first | exact HB.out | apply pw_below_drewN))⟩
           ·rw [if_neg c67] at H
            have c67b0 : (a0_1 == 28) = false := beq_eq_false_iff_ne.mpr c67
            have c67b1 : (a0_1 != 28) = true := bne_iff_ne.mpr c67
            obtain rfl := Option.some.inj H
            have hcz72_0 : wc.cell? ⟨gb135, 0, none⟩ = some (.int .i64 a0_0) := (blk_cell BK135.out 0).trans rfl
            have hcz72_1 : wc.cell? ⟨gb135, 1, none⟩ = some (.int .i64 a0_1) := (blk_cell BK135.out 1).trans rfl
            have hcz72_2 : wc.cell? ⟨gb135, 2, none⟩ = some (.int .i64 a0_2) := (blk_cell BK135.out 2).trans rfl
            have hcz72_3 : wc.cell? ⟨gb135, 3, none⟩ = some (.int .i64 a0_3) := (blk_cell BK135.out 3).trans rfl
            have hcz72_4 : wc.cell? ⟨gb135, 4, none⟩ = some (.int .i64 a0_4) := (blk_cell BK135.out 4).trans rfl
            have hcz72_5 : wc.cell? ⟨gb135, 5, none⟩ = some (.int .i32 a0_5) := (blk_cell BK135.out 5).trans rfl
            have hcz72_6 : wc.cell? ⟨gb135, 6, none⟩ = some (.string a0_6) := (blk_cell BK135.out 6).trans rfl
            have hfz72_0 := blk_frozen BK135.out 0
            have hfz72_1 := blk_frozen BK135.out 1
            have hfz72_2 := blk_frozen BK135.out 2
            have hfz72_3 := blk_frozen BK135.out 3
            have hfz72_4 := blk_frozen BK135.out 4
            have hfz72_5 := blk_frozen BK135.out 5
            have hfz72_6 := blk_frozen BK135.out 6
            go_wp2
            go_ret
            exact ⟨by rfl, by repeat ((with_reducible exact HB.out))⟩

end Go.Proofs.Ytpoofggcodiaiaa.X
