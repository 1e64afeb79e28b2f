/- The walks: for each Go function a Lean function with the same answers, and the proof that the Go code comes to them; no condition beyond what each contract states. Written by this session's own program xprint.py (over the kit's print program); not one of print.sh's texts. -/
import Derived.Test.YtpoofggcodiaiaaX0
import Derived.Test.YtpoofggcodiaiaaX1
import Derived.Test.YtpoofggcodiaiaaX2
import Derived.Test.YtpoofggcodiaiaaX3
import Derived.Test.YtpoofggcodiaiaaX4
namespace Go.Proofs.Ytpoofggcodiaiaa.X
open Go.RowKit Go.Proofs.YtpoofggcodiaiaaW.PrintWords Go.Proofs.YtpoofggcodiaiaaW.PrintLast Go.Proofs.YtpoofggcodiaiaaW.PrintMore
attribute [local go_sem] max2_int min2_int max_two min_two max_three min_three max_four min_four   -- for this text's walks alone
set_option linter.unusedVariables false
set_option linter.unusedSimpArgs false

attribute [local go_sem high] eqA23
/-! ### asm_MayLine: function 15 -/
def asm_MayLine.j0 : Nat → Bool → Int → Int → Int → Int → Int → Int → ByteArray → Option (Bool)
 | 0, _, _, _, _, _, _, _, _ => none
 | k + 1, x66, x105000, x105001, x105002, x105003, x105004, x105005, x105006 => if x66 = true then (some false) else (if x105006.toList = ([] : List UInt8) then (some true) else (if x105001 = 1 then ((asm_IsSym.f k x105006).bind fun t114 => (if t114 = true then (some (x105005 == 0)) else (some false))) else (if x105001 = 2 then ((asm_IsSym.f k x105006).bind fun t115 => (if t115 = true then (some (x105005 == 0)) else (some false))) else (if x105001 = 28 then ((asm_IsSym.f k x105006).bind fun t116 => (if t116 = true then (some (x105005 == 0)) else (some false))) else (some false)))))
def asm_MayLine.f (k : Nat) (a0_0 : Int) (a0_1 : Int) (a0_2 : Int) (a0_3 : Int) (a0_4 : Int) (a0_5 : Int) (a0_6 : ByteArray) : Option (Bool) := if a0_0 = 1 then ((asm_IsSym.f k a0_6).bind fun t105 => (if t105 = true then (some (a0_1 == 0 && (a0_2 == 0 && (a0_3 == 0 && (a0_4 == 0 && (a0_5 == 0)))))) else (some false))) else ((asm_form.f k a0_1).bind fun t106 => ((asm_has.f k t106).bind fun bt107 => (if a0_0 = 2 then (if t106 = 9 then (asm_MayLine.j0 k true a0_0 a0_1 a0_2 a0_3 a0_4 a0_5 a0_6) else ((asm_isReg.f bt107.1 a0_2).bind fun t110 => (if t110 = true then ((asm_isReg.f bt107.2.1 a0_3).bind fun t111 => (if t111 = true then ((asm_isReg.f bt107.2.2 a0_4).bind fun t112 => (if t112 = true then ((asm_isNum.f k t106 a0_5).bind fun t113 => (asm_MayLine.j0 k (!t113) a0_0 a0_1 a0_2 a0_3 a0_4 a0_5 a0_6)) else (asm_MayLine.j0 k true a0_0 a0_1 a0_2 a0_3 a0_4 a0_5 a0_6))) else (asm_MayLine.j0 k true a0_0 a0_1 a0_2 a0_3 a0_4 a0_5 a0_6))) else (asm_MayLine.j0 k true a0_0 a0_1 a0_2 a0_3 a0_4 a0_5 a0_6)))) else (asm_MayLine.j0 k true a0_0 a0_1 a0_2 a0_3 a0_4 a0_5 a0_6))))
theorem asm_MayLine.mono_l : ∀ k, (∀ y0 y1 y2 y3 y4 y5 y6 y7, LeO (asm_MayLine.j0 k y0 y1 y2 y3 y4 y5 y6 y7) (asm_MayLine.j0 (k + 1) y0 y1 y2 y3 y4 y5 y6 y7))
 | 0 => fun _ _ _ _ _ _ _ _ r h => by simp [asm_MayLine.j0] at h
 | k + 1 => by
  have ih0 := asm_MayLine.mono_l k
  ·intro y0 y1 y2 y3 y4 y5 y6 y7
   unfold asm_MayLine.j0
   repeat' first
   | (with_reducible exact ih0 _ _ _ _ _ _ _ _)
   | (with_reducible exact asm_IsSym.mono _ _)
   | (with_reducible exact asm_form.mono _ _)
   | (with_reducible exact asm_has.mono _ _)
   | (with_reducible exact asm_isNum.mono _ _ _)
   | (with_reducible exact LeO.refl _)
   | (with_reducible exact LeO.none _)
   | (with_reducible refine LeO.ite ?_ ?_)
   | (with_reducible refine LeO.bind ?_ (fun _ => ?_))
   | exact ih0 _ _ _ _ _ _ _ _
   | exact asm_IsSym.mono _ _
   | exact asm_form.mono _ _
   | exact asm_has.mono _ _
   | exact asm_isNum.mono _ _ _
   | exact LeO.none _
   | refine LeO.ite ?_ ?_
   | refine LeO.bind ?_ (fun _ => ?_)
theorem asm_MayLine.mono : ∀ a0 a1 a2 a3 a4 a5 a6 k, LeO (asm_MayLine.f k a0 a1 a2 a3 a4 a5 a6) (asm_MayLine.f (k + 1) a0 a1 a2 a3 a4 a5 a6) := by
 intro a0 a1 a2 a3 a4 a5 a6 k
 have ih0 := asm_MayLine.mono_l k
 unfold asm_MayLine.f
 repeat' first
   | (with_reducible exact ih0 _ _ _ _ _ _ _ _)
   | (with_reducible exact asm_IsSym.mono _ _)
   | (with_reducible exact asm_form.mono _ _)
   | (with_reducible exact asm_has.mono _ _)
   | (with_reducible exact asm_isNum.mono _ _ _)
   | (with_reducible exact LeO.refl _)
   | (with_reducible exact LeO.none _)
   | (with_reducible refine LeO.ite ?_ ?_)
   | (with_reducible refine LeO.bind ?_ (fun _ => ?_))
   | exact ih0 _ _ _ _ _ _ _ _
   | exact asm_IsSym.mono _ _
   | exact asm_form.mono _ _
   | exact asm_has.mono _ _
   | exact asm_isNum.mono _ _ _
   | exact LeO.none _
   | refine LeO.ite ?_ ?_
   | refine LeO.bind ?_ (fun _ => ?_)
set_option maxHeartbeats 8000000 in
set_option maxRecDepth 100000 in
theorem asm_MayLine.calls (k : Nat) (a0_0 : Int) (a0_1 : Int) (a0_2 : Int) (a0_3 : Int) (a0_4 : Int) (a0_5 : Int) (a0_6 : ByteArray) (r : Bool) (w : World) (h : asm_MayLine.f k a0_0 a0_1 a0_2 a0_3 a0_4 a0_5 a0_6 = some r) :
  Calls Try.prog 15 #[.agg #[.int .i64 a0_0, .int .i64 a0_1, .int .i64 a0_2, .int .i64 a0_3, .int .i64 a0_4, .int .i32 a0_5, .string a0_6]] w fun e w' => e = .returned (.bool r) ∧ Below w.heap.size w w' := by
 have hu23 := Try.underlying23
 have HB := Aside0.mk (Below.refl w.heap.size w)
 have H : (if a0_0 = 1 then ((asm_IsSym.f k a0_6).bind fun t105 => (if t105 = true then (some (a0_1 == 0 && (a0_2 == 0 && (a0_3 == 0 && (a0_4 == 0 && (a0_5 == 0)))))) else (some false))) else ((asm_form.f k a0_1).bind fun t106 => ((asm_has.f k t106).bind fun bt107 => (if a0_0 = 2 then (if t106 = 9 then (asm_MayLine.j0 k true a0_0 a0_1 a0_2 a0_3 a0_4 a0_5 a0_6) else ((asm_isReg.f bt107.1 a0_2).bind fun t110 => (if t110 = true then ((asm_isReg.f bt107.2.1 a0_3).bind fun t111 => (if t111 = true then ((asm_isReg.f bt107.2.2 a0_4).bind fun t112 => (if t112 = true then ((asm_isNum.f k t106 a0_5).bind fun t113 => (asm_MayLine.j0 k (!t113) a0_0 a0_1 a0_2 a0_3 a0_4 a0_5 a0_6)) else (asm_MayLine.j0 k true a0_0 a0_1 a0_2 a0_3 a0_4 a0_5 a0_6))) else (asm_MayLine.j0 k true a0_0 a0_1 a0_2 a0_3 a0_4 a0_5 a0_6))) else (asm_MayLine.j0 k true a0_0 a0_1 a0_2 a0_3 a0_4 a0_5 a0_6)))) else (asm_MayLine.j0 k true a0_0 a0_1 a0_2 a0_3 a0_4 a0_5 a0_6))))) = some r := h
 clear h
 by_cases c2 : a0_0 = 1
 ·rw [if_pos c2] at H
  have c2b0 : (a0_0 == 1) = true := beq_iff_eq.mpr c2
  have c2b1 : (a0_0 != 1) = false := bne_eq_false_iff_eq.mpr c2
  clear c2
  replace H := Option.bind_eq_some_iff.mp H
  obtain ⟨t105, A30, H⟩ := H
  replace H : (if t105 = true then (some (a0_1 == 0 && (a0_2 == 0 && (a0_3 == 0 && (a0_4 == 0 && (a0_5 == 0)))))) else (some false)) = some r := H
  have A3 := Aside0.mk A30
  clear A30
  by_cases c4 : t105 = true
  ·subst c4
   have H1 : (some (a0_1 == 0 && (a0_2 == 0 && (a0_3 == 0 && (a0_4 == 0 && (a0_5 == 0)))))) = some r := by rw [if_pos rfl] at H; exact H
   clear H
   have H := H1
   clear H1
   obtain rfl := Option.some.inj H
   go_enter Try.func15, Try.ntmps15
   go_wp2_with (first | ((with_reducible refine gate_dst (N := 1) rfl ?_); refine box_event ?hg (N := 1) ?hd (cs := #[.int .i64 a0_0, .int .i64 a0_1, .int .i64 a0_2, .int .i64 a0_3, .int .i64 a0_4, .int .i32 a0_5, .string a0_6]) (t := 23) ?hr ?_; (case hd => rfl); (case hg => rfl); (case hr => (go_simp; done)); intro gb104 hg w5 hbox hb; have n0_ := Aside0.mk (below_step (by repeat ((with_reducible exact HB.out))) hb); have n1_ := Aside0.mk (hbox); have n2_ := Aside0.mk ((by rw [hg]; exact (below_size (by repeat ((with_reducible exact HB.out)))) : w.heap.size ≤ gb104)); have n3_ := Aside0.mk ((by rw [hg]; exact (below_size (by repeat ((with_reducible exact HB.out)))) : w.heap.size ≤ gb104)); clear HB; have HB := n0_; have BK104 := n1_; have GW104 := n2_; have GE104 := n3_; clear n0_ n1_ n2_ n3_; clear hb hbox hg; have hcz6_0 : w5.cell? ⟨gb104, 0, none⟩ = some (.int .i64 a0_0) := (blk_cell BK104.out 0).trans rfl; have hcz6_1 : w5.cell? ⟨gb104, 1, none⟩ = some (.int .i64 a0_1) := (blk_cell BK104.out 1).trans rfl; have hcz6_2 : w5.cell? ⟨gb104, 2, none⟩ = some (.int .i64 a0_2) := (blk_cell BK104.out 2).trans rfl; have hcz6_3 : w5.cell? ⟨gb104, 3, none⟩ = some (.int .i64 a0_3) := (blk_cell BK104.out 3).trans rfl; have hcz6_4 : w5.cell? ⟨gb104, 4, none⟩ = some (.int .i64 a0_4) := (blk_cell BK104.out 4).trans rfl; have hcz6_5 : w5.cell? ⟨gb104, 5, none⟩ = some (.int .i32 a0_5) := (blk_cell BK104.out 5).trans rfl; have hcz6_6 : w5.cell? ⟨gb104, 6, none⟩ = some (.string a0_6) := (blk_cell BK104.out 6).trans rfl; have hfz6_0 := blk_frozen BK104.out 0; have hfz6_1 := blk_frozen BK104.out 1; have hfz6_2 := blk_frozen BK104.out 2; have hfz6_3 := blk_frozen BK104.out 3; have hfz6_4 := blk_frozen BK104.out 4; have hfz6_5 := blk_frozen BK104.out 5; have hfz6_6 := blk_frozen BK104.out 6) | ((with_reducible refine gate_callee (f := 27) rfl ?_); refine goesL_ (some 13) rfl rfl Try.func27 (by kernel_rfl) rfl #[.string a0_6] rfl (by (try simp only [List.map_toArray, List.map_cons, List.map_nil]); rfl) ?_; (with_reducible refine (asm_IsSym.calls k a0_6 true _ A3.out).mono ?_); rintro e w' ⟨rfl, ⟨nd, rfl⟩⟩; refine ⟨_, rfl, ?_⟩))
   go_ret
   exact ⟨by rfl, by repeat ((with_reducible first | exact HB.out | apply pw_below_drewN))⟩
  ·replace c4 := Bool.eq_false_iff.mpr c4
   subst c4
   have H1 : (some false) = some r := by rw [if_neg (show ¬ (false = true) by decide)] at H; exact H
   clear H
   have H := H1
   clear H1
   obtain rfl := Option.some.inj H
   go_enter Try.func15, Try.ntmps15
   go_wp2_with (first | ((with_reducible refine gate_dst (N := 1) rfl ?_); refine box_event ?hg (N := 1) ?hd (cs := #[.int .i64 a0_0, .int .i64 a0_1, .int .i64 a0_2, .int .i64 a0_3, .int .i64 a0_4, .int .i32 a0_5, .string a0_6]) (t := 23) ?hr ?_; (case hd => rfl); (case hg => rfl); (case hr => (go_simp; done)); intro gb104 hg w7 hbox hb; have n0_ := Aside0.mk (below_step (by repeat ((with_reducible exact HB.out))) hb); have n1_ := Aside0.mk (hbox); have n2_ := Aside0.mk ((by rw [hg]; exact (below_size (by repeat ((with_reducible exact HB.out)))) : w.heap.size ≤ gb104)); have n3_ := Aside0.mk ((by rw [hg]; exact (below_size (by repeat ((with_reducible exact HB.out)))) : w.heap.size ≤ gb104)); clear HB; have HB := n0_; have BK104 := n1_; have GW104 := n2_; have GE104 := n3_; clear n0_ n1_ n2_ n3_; clear hb hbox hg; have hcz8_0 : w7.cell? ⟨gb104, 0, none⟩ = some (.int .i64 a0_0) := (blk_cell BK104.out 0).trans rfl; have hcz8_1 : w7.cell? ⟨gb104, 1, none⟩ = some (.int .i64 a0_1) := (blk_cell BK104.out 1).trans rfl; have hcz8_2 : w7.cell? ⟨gb104, 2, none⟩ = some (.int .i64 a0_2) := (blk_cell BK104.out 2).trans rfl; have hcz8_3 : w7.cell? ⟨gb104, 3, none⟩ = some (.int .i64 a0_3) := (blk_cell BK104.out 3).trans rfl; have hcz8_4 : w7.cell? ⟨gb104, 4, none⟩ = some (.int .i64 a0_4) := (blk_cell BK104.out 4).trans rfl; have hcz8_5 : w7.cell? ⟨gb104, 5, none⟩ = some (.int .i32 a0_5) := (blk_cell BK104.out 5).trans rfl; have hcz8_6 : w7.cell? ⟨gb104, 6, none⟩ = some (.string a0_6) := (blk_cell BK104.out 6).trans rfl; have hfz8_0 := blk_frozen BK104.out 0; have hfz8_1 := blk_frozen BK104.out 1; have hfz8_2 := blk_frozen BK104.out 2; have hfz8_3 := blk_frozen BK104.out 3; have hfz8_4 := blk_frozen BK104.out 4; have hfz8_5 := blk_frozen BK104.out 5; have hfz8_6 := blk_frozen BK104.out 6) | ((with_reducible refine gate_callee (f := 27) rfl ?_); refine goesL_ (some 13) rfl rfl Try.func27 (by kernel_rfl) rfl #[.string a0_6] rfl (by (try simp only [List.map_toArray, List.map_cons, List.map_nil]); rfl) ?_; (with_reducible refine (asm_IsSym.calls k a0_6 false _ A3.out).mono ?_); rintro e w' ⟨rfl, ⟨nd, rfl⟩⟩; refine ⟨_, rfl, ?_⟩))
   go_ret
   exact ⟨by rfl, by repeat ((with_reducible first | exact HB.out | apply pw_below_drewN))⟩
 ·rw [if_neg c2] at H
  have c2b0 : (a0_0 == 1) = false := beq_eq_false_iff_ne.mpr c2
  have c2b1 : (a0_0 != 1) = true := bne_iff_ne.mpr c2
  replace H := Option.bind_eq_some_iff.mp H
  obtain ⟨t106, A90, H⟩ := H
  replace H : ((asm_has.f k t106).bind fun bt107 => (if a0_0 = 2 then (if t106 = 9 then (asm_MayLine.j0 k true a0_0 a0_1 a0_2 a0_3 a0_4 a0_5 a0_6) else ((asm_isReg.f bt107.1 a0_2).bind fun t110 => (if t110 = true then ((asm_isReg.f bt107.2.1 a0_3).bind fun t111 => (if t111 = true then ((asm_isReg.f bt107.2.2 a0_4).bind fun t112 => (if t112 = true then ((asm_isNum.f k t106 a0_5).bind fun t113 => (asm_MayLine.j0 k (!t113) a0_0 a0_1 a0_2 a0_3 a0_4 a0_5 a0_6)) else (asm_MayLine.j0 k true a0_0 a0_1 a0_2 a0_3 a0_4 a0_5 a0_6))) else (asm_MayLine.j0 k true a0_0 a0_1 a0_2 a0_3 a0_4 a0_5 a0_6))) else (asm_MayLine.j0 k true a0_0 a0_1 a0_2 a0_3 a0_4 a0_5 a0_6)))) else (asm_MayLine.j0 k true a0_0 a0_1 a0_2 a0_3 a0_4 a0_5 a0_6))) = some r := H
  have A9 := Aside0.mk A90
  clear A90
  replace H := Option.bind_eq_some_iff.mp H
  obtain ⟨⟨t107, t108, t109⟩, A100, H⟩ := H
  replace H : (if a0_0 = 2 then (if t106 = 9 then (asm_MayLine.j0 k true a0_0 a0_1 a0_2 a0_3 a0_4 a0_5 a0_6) else ((asm_isReg.f t107 a0_2).bind fun t110 => (if t110 = true then ((asm_isReg.f t108 a0_3).bind fun t111 => (if t111 = true then ((asm_isReg.f t109 a0_4).bind fun t112 => (if t112 = true then ((asm_isNum.f k t106 a0_5).bind fun t113 => (asm_MayLine.j0 k (!t113) a0_0 a0_1 a0_2 a0_3 a0_4 a0_5 a0_6)) else (asm_MayLine.j0 k true a0_0 a0_1 a0_2 a0_3 a0_4 a0_5 a0_6))) else (asm_MayLine.j0 k true a0_0 a0_1 a0_2 a0_3 a0_4 a0_5 a0_6))) else (asm_MayLine.j0 k true a0_0 a0_1 a0_2 a0_3 a0_4 a0_5 a0_6)))) else (asm_MayLine.j0 k true a0_0 a0_1 a0_2 a0_3 a0_4 a0_5 a0_6)) = some r := H
  have A10 := Aside0.mk A100
  clear A100
  have HC11 := Aside0.mk H
  clear H
  go_enter Try.func15, Try.ntmps15
  go_upto_region 5 with (first | ((with_reducible refine gate_dst (N := 1) rfl ?_); refine box_event ?hg (N := 1) ?hd (cs := #[.int .i64 a0_0, .int .i64 a0_1, .int .i64 a0_2, .int .i64 a0_3, .int .i64 a0_4, .int .i32 a0_5, .string a0_6]) (t := 23) ?hr ?_; (case hd => rfl); (case hg => rfl); (case hr => (go_simp; done)); intro gb104 hg w12 hbox hb; have n0_ := Aside0.mk (below_step (by repeat ((with_reducible exact HB.out))) hb); have n1_ := Aside0.mk (hbox); have n2_ := Aside0.mk ((by rw [hg]; exact (below_size (by repeat ((with_reducible exact HB.out)))) : w.heap.size ≤ gb104)); have n3_ := Aside0.mk ((by rw [hg]; exact (below_size (by repeat ((with_reducible exact HB.out)))) : w.heap.size ≤ gb104)); clear HB; have HB := n0_; have BK104 := n1_; have GW104 := n2_; have GE104 := n3_; clear n0_ n1_ n2_ n3_; clear hb hbox hg; have hcz13_0 : w12.cell? ⟨gb104, 0, none⟩ = some (.int .i64 a0_0) := (blk_cell BK104.out 0).trans rfl; have hcz13_1 : w12.cell? ⟨gb104, 1, none⟩ = some (.int .i64 a0_1) := (blk_cell BK104.out 1).trans rfl; have hcz13_2 : w12.cell? ⟨gb104, 2, none⟩ = some (.int .i64 a0_2) := (blk_cell BK104.out 2).trans rfl; have hcz13_3 : w12.cell? ⟨gb104, 3, none⟩ = some (.int .i64 a0_3) := (blk_cell BK104.out 3).trans rfl; have hcz13_4 : w12.cell? ⟨gb104, 4, none⟩ = some (.int .i64 a0_4) := (blk_cell BK104.out 4).trans rfl; have hcz13_5 : w12.cell? ⟨gb104, 5, none⟩ = some (.int .i32 a0_5) := (blk_cell BK104.out 5).trans rfl; have hcz13_6 : w12.cell? ⟨gb104, 6, none⟩ = some (.string a0_6) := (blk_cell BK104.out 6).trans rfl; have hfz13_0 := blk_frozen BK104.out 0; have hfz13_1 := blk_frozen BK104.out 1; have hfz13_2 := blk_frozen BK104.out 2; have hfz13_3 := blk_frozen BK104.out 3; have hfz13_4 := blk_frozen BK104.out 4; have hfz13_5 := blk_frozen BK104.out 5; have hfz13_6 := blk_frozen BK104.out 6) | ((with_reducible refine gate_callee (f := 28) rfl ?_); refine goesL_ (some 25) rfl rfl Try.func28 (by kernel_rfl) rfl #[.int .i64 a0_1] rfl (by (try simp only [List.map_toArray, List.map_cons, List.map_nil]); rfl) ?_; (with_reducible refine (asm_form.calls k a0_1 t106 _ A9.out).mono ?_); rintro e w' ⟨rfl, ⟨nd, rfl⟩⟩; refine ⟨_, rfl, ?_⟩) | ((with_reducible refine gate_callee (f := 29) rfl ?_); refine goesL_ (some 28) rfl rfl Try.func29 (by kernel_rfl) rfl #[.int .i64 t106] rfl (by (try simp only [List.map_toArray, List.map_cons, List.map_nil]); rfl) ?_; (with_reducible refine (asm_has.calls k t106 t107 t108 t109 _ A10.out).mono ?_); rintro e w' ⟨rfl, ⟨nd, rfl⟩⟩; refine ⟨_, rfl, ?_⟩))
  go_cut [66] (fun v66 wc => ∃ (kq : Nat) (x66_10 : Bool), v66 = .bool x66_10 ∧ Aside0 (asm_MayLine.j0 kq x66_10 a0_0 a0_1 a0_2 a0_3 a0_4 a0_5 a0_6 = some r) ∧ Aside0 (kq ≤ k) ∧ Aside0 (wc.heap[gb104]? = some (.cells #[.int .i64 a0_0, .int .i64 a0_1, .int .i64 a0_2, .int .i64 a0_3, .int .i64 a0_4, .int .i32 a0_5, .string a0_6] 23 (0, 0))) ∧ Aside0 (Below w.heap.size w wc))
  case first =>
   have H := HC11.out
   clear HC11
   by_cases c14 : a0_0 = 2
   ·rw [if_pos c14] at H
    have c14b0 : (a0_0 == 2) = true := beq_iff_eq.mpr c14
    have c14b1 : (a0_0 != 2) = false := bne_eq_false_iff_eq.mpr c14
    clear c14
    by_cases c15 : t106 = 9
    ·rw [if_pos c15] at H
     have c15b0 : (t106 == 9) = true := beq_iff_eq.mpr c15
     have c15b1 : (t106 != 9) = false := bne_eq_false_iff_eq.mpr c15
     clear c15
     have H' := Aside0.mk H
     clear H
     have hcz16_0 : w12.cell? ⟨gb104, 0, none⟩ = some (.int .i64 a0_0) := (blk_cell BK104.out 0).trans rfl
     have hcz16_1 : w12.cell? ⟨gb104, 1, none⟩ = some (.int .i64 a0_1) := (blk_cell BK104.out 1).trans rfl
     have hcz16_2 : w12.cell? ⟨gb104, 2, none⟩ = some (.int .i64 a0_2) := (blk_cell BK104.out 2).trans rfl
     have hcz16_3 : w12.cell? ⟨gb104, 3, none⟩ = some (.int .i64 a0_3) := (blk_cell BK104.out 3).trans rfl
     have hcz16_4 : w12.cell? ⟨gb104, 4, none⟩ = some (.int .i64 a0_4) := (blk_cell BK104.out 4).trans rfl
     have hcz16_5 : w12.cell? ⟨gb104, 5, none⟩ = some (.int .i32 a0_5) := (blk_cell BK104.out 5).trans rfl
     have hcz16_6 : w12.cell? ⟨gb104, 6, none⟩ = some (.string a0_6) := (blk_cell BK104.out 6).trans rfl
     have hfz16_0 := blk_frozen BK104.out 0
     have hfz16_1 := blk_frozen BK104.out 1
     have hfz16_2 := blk_frozen BK104.out 2
     have hfz16_3 := blk_frozen BK104.out 3
     have hfz16_4 := blk_frozen BK104.out 4
     have hfz16_5 := blk_frozen BK104.out 5
     have hfz16_6 := blk_frozen BK104.out 6
     go_wp2
     go_meet
     case rel => exact ⟨_, (true), (by rfl), H', ⟨by omega⟩, ⟨by (with_reducible repeat (refine blk_drewN ?_ _)); exact BK104.out⟩, ⟨by repeat ((with_reducible first | exact HB.out | apply pw_below_drewN))⟩⟩
    ·rw [if_neg c15] at H
     have c15b0 : (t106 == 9) = false := beq_eq_false_iff_ne.mpr c15
     have c15b1 : (t106 != 9) = true := bne_iff_ne.mpr c15
     replace H := Option.bind_eq_some_iff.mp H
     obtain ⟨t110, A170, H⟩ := H
     replace H : (if t110 = true then ((asm_isReg.f t108 a0_3).bind fun t111 => (if t111 = true then ((asm_isReg.f t109 a0_4).bind fun t112 => (if t112 = true then ((asm_isNum.f k t106 a0_5).bind fun t113 => (asm_MayLine.j0 k (!t113) a0_0 a0_1 a0_2 a0_3 a0_4 a0_5 a0_6)) else (asm_MayLine.j0 k true a0_0 a0_1 a0_2 a0_3 a0_4 a0_5 a0_6))) else (asm_MayLine.j0 k true a0_0 a0_1 a0_2 a0_3 a0_4 a0_5 a0_6))) else (asm_MayLine.j0 k true a0_0 a0_1 a0_2 a0_3 a0_4 a0_5 a0_6)) = some r := H
     have A17 := Aside0.mk A170
     clear A170
     by_cases c18 : t110 = true
     ·subst c18
      have H1 : ((asm_isReg.f t108 a0_3).bind fun t111 => (if t111 = true then ((asm_isReg.f t109 a0_4).bind fun t112 => (if t112 = true then ((asm_isNum.f k t106 a0_5).bind fun t113 => (asm_MayLine.j0 k (!t113) a0_0 a0_1 a0_2 a0_3 a0_4 a0_5 a0_6)) else (asm_MayLine.j0 k true a0_0 a0_1 a0_2 a0_3 a0_4 a0_5 a0_6))) else (asm_MayLine.j0 k true a0_0 a0_1 a0_2 a0_3 a0_4 a0_5 a0_6))) = some r := by rw [if_pos rfl] at H; exact H
      clear H
      have H := H1
      clear H1
      replace H := Option.bind_eq_some_iff.mp H
      obtain ⟨t111, A190, H⟩ := H
      replace H : (if t111 = true then ((asm_isReg.f t109 a0_4).bind fun t112 => (if t112 = true then ((asm_isNum.f k t106 a0_5).bind fun t113 => (asm_MayLine.j0 k (!t113) a0_0 a0_1 a0_2 a0_3 a0_4 a0_5 a0_6)) else (asm_MayLine.j0 k true a0_0 a0_1 a0_2 a0_3 a0_4 a0_5 a0_6))) else (asm_MayLine.j0 k true a0_0 a0_1 a0_2 a0_3 a0_4 a0_5 a0_6)) = some r := H
      have A19 := Aside0.mk A190
      clear A190
      by_cases c20 : t111 = true
      ·subst c20
       have H1 : ((asm_isReg.f t109 a0_4).bind fun t112 => (if t112 = true then ((asm_isNum.f k t106 a0_5).bind fun t113 => (asm_MayLine.j0 k (!t113) a0_0 a0_1 a0_2 a0_3 a0_4 a0_5 a0_6)) else (asm_MayLine.j0 k true a0_0 a0_1 a0_2 a0_3 a0_4 a0_5 a0_6))) = some r := by rw [if_pos rfl] at H; exact H
       clear H
       have H := H1
       clear H1
       replace H := Option.bind_eq_some_iff.mp H
       obtain ⟨t112, A210, H⟩ := H
       replace H : (if t112 = true then ((asm_isNum.f k t106 a0_5).bind fun t113 => (asm_MayLine.j0 k (!t113) a0_0 a0_1 a0_2 a0_3 a0_4 a0_5 a0_6)) else (asm_MayLine.j0 k true a0_0 a0_1 a0_2 a0_3 a0_4 a0_5 a0_6)) = some r := H
       have A21 := Aside0.mk A210
       clear A210
       by_cases c22 : t112 = true
       ·subst c22
        have H1 : ((asm_isNum.f k t106 a0_5).bind fun t113 => (asm_MayLine.j0 k (!t113) a0_0 a0_1 a0_2 a0_3 a0_4 a0_5 a0_6)) = some r := by rw [if_pos rfl] at H; exact H
        clear H
        have H := H1
        clear H1
        replace H := Option.bind_eq_some_iff.mp H
        obtain ⟨t113, A230, H⟩ := H
        replace H : (asm_MayLine.j0 k (!t113) a0_0 a0_1 a0_2 a0_3 a0_4 a0_5 a0_6) = some r := H
        have A23 := Aside0.mk A230
        clear A230
        have H' := Aside0.mk H
        clear H
        have hcz24_0 : w12.cell? ⟨gb104, 0, none⟩ = some (.int .i64 a0_0) := (blk_cell BK104.out 0).trans rfl
        have hcz24_1 : w12.cell? ⟨gb104, 1, none⟩ = some (.int .i64 a0_1) := (blk_cell BK104.out 1).trans rfl
        have hcz24_2 : w12.cell? ⟨gb104, 2, none⟩ = some (.int .i64 a0_2) := (blk_cell BK104.out 2).trans rfl
        have hcz24_3 : w12.cell? ⟨gb104, 3, none⟩ = some (.int .i64 a0_3) := (blk_cell BK104.out 3).trans rfl
        have hcz24_4 : w12.cell? ⟨gb104, 4, none⟩ = some (.int .i64 a0_4) := (blk_cell BK104.out 4).trans rfl
        have hcz24_5 : w12.cell? ⟨gb104, 5, none⟩ = some (.int .i32 a0_5) := (blk_cell BK104.out 5).trans rfl
        have hcz24_6 : w12.cell? ⟨gb104, 6, none⟩ = some (.string a0_6) := (blk_cell BK104.out 6).trans rfl
        have hfz24_0 := blk_frozen BK104.out 0
        have hfz24_1 := blk_frozen BK104.out 1
        have hfz24_2 := blk_frozen BK104.out 2
        have hfz24_3 := blk_frozen BK104.out 3
        have hfz24_4 := blk_frozen BK104.out 4
        have hfz24_5 := blk_frozen BK104.out 5
        have hfz24_6 := blk_frozen BK104.out 6
        go_wp2_with (first | (go_at_call 30; (with_reducible refine (asm_isReg.calls t107 a0_2 true _ A17.out).mono ?_); rintro e w' ⟨rfl, ⟨nd, rfl⟩⟩) | (go_at_call 30; (with_reducible refine (asm_isReg.calls t108 a0_3 true _ A19.out).mono ?_); rintro e w' ⟨rfl, ⟨nd, rfl⟩⟩) | (go_at_call 30; (with_reducible refine (asm_isReg.calls t109 a0_4 true _ A21.out).mono ?_); rintro e w' ⟨rfl, ⟨nd, rfl⟩⟩) | (go_at_call 31; (with_reducible refine (asm_isNum.calls k t106 a0_5 t113 _ A23.out).mono ?_); rintro e w' ⟨rfl, ⟨nd, rfl⟩⟩))
        go_meet
        case rel => exact ⟨_, (!t113), (by rfl), H', ⟨by omega⟩, ⟨by (with_reducible repeat (refine blk_drewN ?_ _)); exact BK104.out⟩, ⟨by repeat ((with_reducible first | exact HB.out | apply pw_below_drewN))⟩⟩
       ·replace c22 := Bool.eq_false_iff.mpr c22
        subst c22
        have H1 : (asm_MayLine.j0 k true a0_0 a0_1 a0_2 a0_3 a0_4 a0_5 a0_6) = some r := by rw [if_neg (show ¬ (false = true) by decide)] at H; exact H
        clear H
        have H := H1
        clear H1
        have H' := Aside0.mk H
        clear H
        have hcz25_0 : w12.cell? ⟨gb104, 0, none⟩ = some (.int .i64 a0_0) := (blk_cell BK104.out 0).trans rfl
        have hcz25_1 : w12.cell? ⟨gb104, 1, none⟩ = some (.int .i64 a0_1) := (blk_cell BK104.out 1).trans rfl
        have hcz25_2 : w12.cell? ⟨gb104, 2, none⟩ = some (.int .i64 a0_2) := (blk_cell BK104.out 2).trans rfl
        have hcz25_3 : w12.cell? ⟨gb104, 3, none⟩ = some (.int .i64 a0_3) := (blk_cell BK104.out 3).trans rfl
        have hcz25_4 : w12.cell? ⟨gb104, 4, none⟩ = some (.int .i64 a0_4) := (blk_cell BK104.out 4).trans rfl
        have hcz25_5 : w12.cell? ⟨gb104, 5, none⟩ = some (.int .i32 a0_5) := (blk_cell BK104.out 5).trans rfl
        have hcz25_6 : w12.cell? ⟨gb104, 6, none⟩ = some (.string a0_6) := (blk_cell BK104.out 6).trans rfl
        have hfz25_0 := blk_frozen BK104.out 0
        have hfz25_1 := blk_frozen BK104.out 1
        have hfz25_2 := blk_frozen BK104.out 2
        have hfz25_3 := blk_frozen BK104.out 3
        have hfz25_4 := blk_frozen BK104.out 4
        have hfz25_5 := blk_frozen BK104.out 5
        have hfz25_6 := blk_frozen BK104.out 6
        go_wp2_with (first | (go_at_call 30; (with_reducible refine (asm_isReg.calls t107 a0_2 true _ A17.out).mono ?_); rintro e w' ⟨rfl, ⟨nd, rfl⟩⟩) | (go_at_call 30; (with_reducible refine (asm_isReg.calls t108 a0_3 true _ A19.out).mono ?_); rintro e w' ⟨rfl, ⟨nd, rfl⟩⟩) | (go_at_call 30; (with_reducible refine (asm_isReg.calls t109 a0_4 false _ A21.out).mono ?_); rintro e w' ⟨rfl, ⟨nd, rfl⟩⟩))
        go_meet
        case rel => exact ⟨_, (true), (by rfl), H', ⟨by omega⟩, ⟨by (with_reducible repeat (refine blk_drewN ?_ _)); exact BK104.out⟩, ⟨by repeat ((with_reducible first | exact HB.out | apply pw_below_drewN))⟩⟩
      ·replace c20 := Bool.eq_false_iff.mpr c20
       subst c20
       have H1 : (asm_MayLine.j0 k true a0_0 a0_1 a0_2 a0_3 a0_4 a0_5 a0_6) = some r := by rw [if_neg (show ¬ (false = true) by decide)] at H; exact H
       clear H
       have H := H1
       clear H1
       have H' := Aside0.mk H
       clear H
       have hcz26_0 : w12.cell? ⟨gb104, 0, none⟩ = some (.int .i64 a0_0) := (blk_cell BK104.out 0).trans rfl
       have hcz26_1 : w12.cell? ⟨gb104, 1, none⟩ = some (.int .i64 a0_1) := (blk_cell BK104.out 1).trans rfl
       have hcz26_2 : w12.cell? ⟨gb104, 2, none⟩ = some (.int .i64 a0_2) := (blk_cell BK104.out 2).trans rfl
       have hcz26_3 : w12.cell? ⟨gb104, 3, none⟩ = some (.int .i64 a0_3) := (blk_cell BK104.out 3).trans rfl
       have hcz26_4 : w12.cell? ⟨gb104, 4, none⟩ = some (.int .i64 a0_4) := (blk_cell BK104.out 4).trans rfl
       have hcz26_5 : w12.cell? ⟨gb104, 5, none⟩ = some (.int .i32 a0_5) := (blk_cell BK104.out 5).trans rfl
       have hcz26_6 : w12.cell? ⟨gb104, 6, none⟩ = some (.string a0_6) := (blk_cell BK104.out 6).trans rfl
       have hfz26_0 := blk_frozen BK104.out 0
       have hfz26_1 := blk_frozen BK104.out 1
       have hfz26_2 := blk_frozen BK104.out 2
       have hfz26_3 := blk_frozen BK104.out 3
       have hfz26_4 := blk_frozen BK104.out 4
       have hfz26_5 := blk_frozen BK104.out 5
       have hfz26_6 := blk_frozen BK104.out 6
       go_wp2_with (first | (go_at_call 30; (with_reducible refine (asm_isReg.calls t107 a0_2 true _ A17.out).mono ?_); rintro e w' ⟨rfl, ⟨nd, rfl⟩⟩) | (go_at_call 30; (with_reducible refine (asm_isReg.calls t108 a0_3 false _ A19.out).mono ?_); rintro e w' ⟨rfl, ⟨nd, rfl⟩⟩))
       go_meet
       case rel => exact ⟨_, (true), (by rfl), H', ⟨by omega⟩, ⟨by (with_reducible repeat (refine blk_drewN ?_ _)); exact BK104.out⟩, ⟨by repeat ((with_reducible first | exact HB.out | apply pw_below_drewN))⟩⟩
     ·replace c18 := Bool.eq_false_iff.mpr c18
      subst c18
      have H1 : (asm_MayLine.j0 k true a0_0 a0_1 a0_2 a0_3 a0_4 a0_5 a0_6) = some r := by rw [if_neg (show ¬ (false = true) by decide)] at H; exact H
      clear H
      have H := H1
      clear H1
      have H' := Aside0.mk H
      clear H
      have hcz27_0 : w12.cell? ⟨gb104, 0, none⟩ = some (.int .i64 a0_0) := (blk_cell BK104.out 0).trans rfl
      have hcz27_1 : w12.cell? ⟨gb104, 1, none⟩ = some (.int .i64 a0_1) := (blk_cell BK104.out 1).trans rfl
      have hcz27_2 : w12.cell? ⟨gb104, 2, none⟩ = some (.int .i64 a0_2) := (blk_cell BK104.out 2).trans rfl
      have hcz27_3 : w12.cell? ⟨gb104, 3, none⟩ = some (.int .i64 a0_3) := (blk_cell BK104.out 3).trans rfl
      have hcz27_4 : w12.cell? ⟨gb104, 4, none⟩ = some (.int .i64 a0_4) := (blk_cell BK104.out 4).trans rfl
      have hcz27_5 : w12.cell? ⟨gb104, 5, none⟩ = some (.int .i32 a0_5) := (blk_cell BK104.out 5).trans rfl
      have hcz27_6 : w12.cell? ⟨gb104, 6, none⟩ = some (.string a0_6) := (blk_cell BK104.out 6).trans rfl
      have hfz27_0 := blk_frozen BK104.out 0
      have hfz27_1 := blk_frozen BK104.out 1
      have hfz27_2 := blk_frozen BK104.out 2
      have hfz27_3 := blk_frozen BK104.out 3
      have hfz27_4 := blk_frozen BK104.out 4
      have hfz27_5 := blk_frozen BK104.out 5
      have hfz27_6 := blk_frozen BK104.out 6
      go_wp2_with ((go_at_call 30; (with_reducible refine (asm_isReg.calls t107 a0_2 false _ A17.out).mono ?_); rintro e w' ⟨rfl, ⟨nd, rfl⟩⟩))
      go_meet
      case rel => exact ⟨_, (true), (by rfl), H', ⟨by omega⟩, ⟨by (with_reducible repeat (refine blk_drewN ?_ _)); exact BK104.out⟩, ⟨by repeat ((with_reducible first | exact HB.out | apply pw_below_drewN))⟩⟩
   ·rw [if_neg c14] at H
    have c14b0 : (a0_0 == 2) = false := beq_eq_false_iff_ne.mpr c14
    have c14b1 : (a0_0 != 2) = true := bne_iff_ne.mpr c14
    have H' := Aside0.mk H
    clear H
    have hcz28_0 : w12.cell? ⟨gb104, 0, none⟩ = some (.int .i64 a0_0) := (blk_cell BK104.out 0).trans rfl
    have hcz28_1 : w12.cell? ⟨gb104, 1, none⟩ = some (.int .i64 a0_1) := (blk_cell BK104.out 1).trans rfl
    have hcz28_2 : w12.cell? ⟨gb104, 2, none⟩ = some (.int .i64 a0_2) := (blk_cell BK104.out 2).trans rfl
    have hcz28_3 : w12.cell? ⟨gb104, 3, none⟩ = some (.int .i64 a0_3) := (blk_cell BK104.out 3).trans rfl
    have hcz28_4 : w12.cell? ⟨gb104, 4, none⟩ = some (.int .i64 a0_4) := (blk_cell BK104.out 4).trans rfl
    have hcz28_5 : w12.cell? ⟨gb104, 5, none⟩ = some (.int .i32 a0_5) := (blk_cell BK104.out 5).trans rfl
    have hcz28_6 : w12.cell? ⟨gb104, 6, none⟩ = some (.string a0_6) := (blk_cell BK104.out 6).trans rfl
    have hfz28_0 := blk_frozen BK104.out 0
    have hfz28_1 := blk_frozen BK104.out 1
    have hfz28_2 := blk_frozen BK104.out 2
    have hfz28_3 := blk_frozen BK104.out 3
    have hfz28_4 := blk_frozen BK104.out 4
    have hfz28_5 := blk_frozen BK104.out 5
    have hfz28_6 := blk_frozen BK104.out 6
    go_wp2
    go_meet
    case rel => exact ⟨_, (true), (by rfl), H', ⟨by omega⟩, ⟨by (with_reducible repeat (refine blk_drewN ?_ _)); exact BK104.out⟩, ⟨by repeat ((with_reducible first | exact HB.out | apply pw_below_drewN))⟩⟩
  case rest =>
   clear HC11 c2 c2b0 c2b1 hcz13_0 hcz13_1 hcz13_2 hcz13_3 hcz13_4 hcz13_5 hcz13_6 hfz13_0 hfz13_1 hfz13_2 hfz13_3 hfz13_4 hfz13_5 hfz13_6
   obtain ⟨kq, x66_10, rfl, HA, HJ10, BK104, HB⟩ := hcut
   cases kq with
   | zero => exact absurd HA.out (by simp [asm_MayLine.j0])
   | succ kj10 =>
    have H := HA.out
    clear HA
    simp only [asm_MayLine.j0] at H
    by_cases c29 : x66_10 = true
    ·subst c29
     have H1 : (some false) = some r := by rw [if_pos rfl] at H; exact H
     clear H
     have H := H1
     clear H1
     obtain rfl := Option.some.inj H
     go_wp2
     go_ret
     exact ⟨by rfl, by repeat ((with_reducible exact HB.out))⟩
    ·replace c29 := Bool.eq_false_iff.mpr c29
     subst c29
     have H1 : (if a0_6.toList = ([] : List UInt8) then (some true) else (if a0_1 = 1 then ((asm_IsSym.f kj10 a0_6).bind fun t114 => (if t114 = true then (some (a0_5 == 0)) else (some false))) else (if a0_1 = 2 then ((asm_IsSym.f kj10 a0_6).bind fun t115 => (if t115 = true then (some (a0_5 == 0)) else (some false))) else (if a0_1 = 28 then ((asm_IsSym.f kj10 a0_6).bind fun t116 => (if t116 = true then (some (a0_5 == 0)) else (some false))) else (some false))))) = some r := by rw [if_neg (show ¬ (false = true) by decide)] at H; exact H
     clear H
     have H := H1
     clear H1
     by_cases c30 : a0_6.toList = ([] : List UInt8)
     ·rw [if_pos c30] at H
      have c30b0 : (a0_6.toList == ([] : List UInt8)) = true := beq_iff_eq.mpr c30
      have c30b1 : (a0_6.toList != ([] : List UInt8)) = false := bne_eq_false_iff_eq.mpr c30
      clear c30
      obtain rfl := Option.some.inj H
      have hcz31_0 : wc.cell? ⟨gb104, 0, none⟩ = some (.int .i64 a0_0) := (blk_cell BK104.out 0).trans rfl
      have hcz31_1 : wc.cell? ⟨gb104, 1, none⟩ = some (.int .i64 a0_1) := (blk_cell BK104.out 1).trans rfl
      have hcz31_2 : wc.cell? ⟨gb104, 2, none⟩ = some (.int .i64 a0_2) := (blk_cell BK104.out 2).trans rfl
      have hcz31_3 : wc.cell? ⟨gb104, 3, none⟩ = some (.int .i64 a0_3) := (blk_cell BK104.out 3).trans rfl
      have hcz31_4 : wc.cell? ⟨gb104, 4, none⟩ = some (.int .i64 a0_4) := (blk_cell BK104.out 4).trans rfl
      have hcz31_5 : wc.cell? ⟨gb104, 5, none⟩ = some (.int .i32 a0_5) := (blk_cell BK104.out 5).trans rfl
      have hcz31_6 : wc.cell? ⟨gb104, 6, none⟩ = some (.string a0_6) := (blk_cell BK104.out 6).trans rfl
      have hfz31_0 := blk_frozen BK104.out 0
      have hfz31_1 := blk_frozen BK104.out 1
      have hfz31_2 := blk_frozen BK104.out 2
      have hfz31_3 := blk_frozen BK104.out 3
      have hfz31_4 := blk_frozen BK104.out 4
      have hfz31_5 := blk_frozen BK104.out 5
      have hfz31_6 := blk_frozen BK104.out 6
      go_wp2
      go_ret
      exact ⟨by rfl, by repeat ((with_reducible exact HB.out))⟩
     ·rw [if_neg c30] at H
      have c30b0 : (a0_6.toList == ([] : List UInt8)) = false := beq_eq_false_iff_ne.mpr c30
      have c30b1 : (a0_6.toList != ([] : List UInt8)) = true := bne_iff_ne.mpr c30
      by_cases c32 : a0_1 = 1
      ·rw [if_pos c32] at H
       have c32b0 : (a0_1 == 1) = true := beq_iff_eq.mpr c32
       have c32b1 : (a0_1 != 1) = false := bne_eq_false_iff_eq.mpr c32
       clear c32
       replace H := Option.bind_eq_some_iff.mp H
       obtain ⟨t114, A330, H⟩ := H
       replace H : (if t114 = true then (some (a0_5 == 0)) else (some false)) = some r := H
       have A33 := Aside0.mk A330
       clear A330
       by_cases c34 : t114 = true
       ·subst c34
        have H1 : (some (a0_5 == 0)) = some r := by rw [if_pos rfl] at H; exact H
        clear H
        have H := H1
        clear H1
        obtain rfl := Option.some.inj H
        have hcz35_0 : wc.cell? ⟨gb104, 0, none⟩ = some (.int .i64 a0_0) := (blk_cell BK104.out 0).trans rfl
        have hcz35_1 : wc.cell? ⟨gb104, 1, none⟩ = some (.int .i64 a0_1) := (blk_cell BK104.out 1).trans rfl
        have hcz35_2 : wc.cell? ⟨gb104, 2, none⟩ = some (.int .i64 a0_2) := (blk_cell BK104.out 2).trans rfl
        have hcz35_3 : wc.cell? ⟨gb104, 3, none⟩ = some (.int .i64 a0_3) := (blk_cell BK104.out 3).trans rfl
        have hcz35_4 : wc.cell? ⟨gb104, 4, none⟩ = some (.int .i64 a0_4) := (blk_cell BK104.out 4).trans rfl
        have hcz35_5 : wc.cell? ⟨gb104, 5, none⟩ = some (.int .i32 a0_5) := (blk_cell BK104.out 5).trans rfl
        have hcz35_6 : wc.cell? ⟨gb104, 6, none⟩ = some (.string a0_6) := (blk_cell BK104.out 6).trans rfl
        have hfz35_0 := blk_frozen BK104.out 0
        have hfz35_1 := blk_frozen BK104.out 1
        have hfz35_2 := blk_frozen BK104.out 2
        have hfz35_3 := blk_frozen BK104.out 3
        have hfz35_4 := blk_frozen BK104.out 4
        have hfz35_5 := blk_frozen BK104.out 5
        have hfz35_6 := blk_frozen BK104.out 6
        go_wp2_with ((go_at_call 27; (with_reducible refine (asm_IsSym.calls kj10 a0_6 true _ A33.out).mono ?_); rintro e w' ⟨rfl, ⟨nd, rfl⟩⟩))
        go_ret
        exact ⟨by rfl, by repeat ((with_reducible first | exact HB.out | apply pw_below_drewN))⟩
       ·replace c34 := Bool.eq_false_iff.mpr c34
        subst c34
        have H1 : (some false) = some r := by rw [if_neg (show ¬ (false = true) by decide)] at H; exact H
        clear H
        have H := H1
        clear H1
        obtain rfl := Option.some.inj H
        have hcz36_0 : wc.cell? ⟨gb104, 0, none⟩ = some (.int .i64 a0_0) := (blk_cell BK104.out 0).trans rfl
        have hcz36_1 : wc.cell? ⟨gb104, 1, none⟩ = some (.int .i64 a0_1) := (blk_cell BK104.out 1).trans rfl
        have hcz36_2 : wc.cell? ⟨gb104, 2, none⟩ = some (.int .i64 a0_2) := (blk_cell BK104.out 2).trans rfl
        have hcz36_3 : wc.cell? ⟨gb104, 3, none⟩ = some (.int .i64 a0_3) := (blk_cell BK104.out 3).trans rfl
        have hcz36_4 : wc.cell? ⟨gb104, 4, none⟩ = some (.int .i64 a0_4) := (blk_cell BK104.out 4).trans rfl
        have hcz36_5 : wc.cell? ⟨gb104, 5, none⟩ = some (.int .i32 a0_5) := (blk_cell BK104.out 5).trans rfl
        have hcz36_6 : wc.cell? ⟨gb104, 6, none⟩ = some (.string a0_6) := (blk_cell BK104.out 6).trans rfl
        have hfz36_0 := blk_frozen BK104.out 0
        have hfz36_1 := blk_frozen BK104.out 1
        have hfz36_2 := blk_frozen BK104.out 2
        have hfz36_3 := blk_frozen BK104.out 3
        have hfz36_4 := blk_frozen BK104.out 4
        have hfz36_5 := blk_frozen BK104.out 5
        have hfz36_6 := blk_frozen BK104.out 6
        go_wp2_with ((go_at_call 27; (with_reducible refine (asm_IsSym.calls kj10 a0_6 false _ A33.out).mono ?_); rintro e w' ⟨rfl, ⟨nd, rfl⟩⟩))
        go_ret
        exact ⟨by rfl, by repeat ((with_reducible first | exact HB.out | apply pw_below_drewN))⟩
      ·rw [if_neg c32] at H
       have c32b0 : (a0_1 == 1) = false := beq_eq_false_iff_ne.mpr c32
       have c32b1 : (a0_1 != 1) = true := bne_iff_ne.mpr c32
       by_cases c37 : a0_1 = 2
       ·rw [if_pos c37] at H
        have c37b0 : (a0_1 == 2) = true := beq_iff_eq.mpr c37
        have c37b1 : (a0_1 != 2) = false := bne_eq_false_iff_eq.mpr c37
        clear c37
        replace H := Option.bind_eq_some_iff.mp H
        obtain ⟨t115, A380, H⟩ := H
        replace H : (if t115 = true then (some (a0_5 == 0)) else (some false)) = some r := H
        have A38 := Aside0.mk A380
        clear A380
        by_cases c39 : t115 = true
        ·subst c39
         have H1 : (some (a0_5 == 0)) = some r := by rw [if_pos rfl] at H; exact H
         clear H
         have H := H1
         clear H1
         obtain rfl := Option.some.inj H
         have hcz40_0 : wc.cell? ⟨gb104, 0, none⟩ = some (.int .i64 a0_0) := (blk_cell BK104.out 0).trans rfl
         have hcz40_1 : wc.cell? ⟨gb104, 1, none⟩ = some (.int .i64 a0_1) := (blk_cell BK104.out 1).trans rfl
         have hcz40_2 : wc.cell? ⟨gb104, 2, none⟩ = some (.int .i64 a0_2) := (blk_cell BK104.out 2).trans rfl
         have hcz40_3 : wc.cell? ⟨gb104, 3, none⟩ = some (.int .i64 a0_3) := (blk_cell BK104.out 3).trans rfl
         have hcz40_4 : wc.cell? ⟨gb104, 4, none⟩ = some (.int .i64 a0_4) := (blk_cell BK104.out 4).trans rfl
         have hcz40_5 : wc.cell? ⟨gb104, 5, none⟩ = some (.int .i32 a0_5) := (blk_cell BK104.out 5).trans rfl
         have hcz40_6 : wc.cell? ⟨gb104, 6, none⟩ = some (.string a0_6) := (blk_cell BK104.out 6).trans rfl
         have hfz40_0 := blk_frozen BK104.out 0
         have hfz40_1 := blk_frozen BK104.out 1
         have hfz40_2 := blk_frozen BK104.out 2
         have hfz40_3 := blk_frozen BK104.out 3
         have hfz40_4 := blk_frozen BK104.out 4
         have hfz40_5 := blk_frozen BK104.out 5
         have hfz40_6 := blk_frozen BK104.out 6
         go_wp2_with ((go_at_call 27; (with_reducible refine (asm_IsSym.calls kj10 a0_6 true _ A38.out).mono ?_); rintro e w' ⟨rfl, ⟨nd, rfl⟩⟩))
         go_ret
         exact ⟨by rfl, by repeat ((with_reducible first | exact HB.out | apply pw_below_drewN))⟩
        ·replace c39 := Bool.eq_false_iff.mpr c39
         subst c39
         have H1 : (some false) = some r := by rw [if_neg (show ¬ (false = true) by decide)] at H; exact H
         clear H
         have H := H1
         clear H1
         obtain rfl := Option.some.inj H
         have hcz41_0 : wc.cell? ⟨gb104, 0, none⟩ = some (.int .i64 a0_0) := (blk_cell BK104.out 0).trans rfl
         have hcz41_1 : wc.cell? ⟨gb104, 1, none⟩ = some (.int .i64 a0_1) := (blk_cell BK104.out 1).trans rfl
         have hcz41_2 : wc.cell? ⟨gb104, 2, none⟩ = some (.int .i64 a0_2) := (blk_cell BK104.out 2).trans rfl
         have hcz41_3 : wc.cell? ⟨gb104, 3, none⟩ = some (.int .i64 a0_3) := (blk_cell BK104.out 3).trans rfl
         have hcz41_4 : wc.cell? ⟨gb104, 4, none⟩ = some (.int .i64 a0_4) := (blk_cell BK104.out 4).trans rfl
         have hcz41_5 : wc.cell? ⟨gb104, 5, none⟩ = some (.int .i32 a0_5) := (blk_cell BK104.out 5).trans rfl
         have hcz41_6 : wc.cell? ⟨gb104, 6, none⟩ = some (.string a0_6) := (blk_cell BK104.out 6).trans rfl
         have hfz41_0 := blk_frozen BK104.out 0
         have hfz41_1 := blk_frozen BK104.out 1
         have hfz41_2 := blk_frozen BK104.out 2
         have hfz41_3 := blk_frozen BK104.out 3
         have hfz41_4 := blk_frozen BK104.out 4
         have hfz41_5 := blk_frozen BK104.out 5
         have hfz41_6 := blk_frozen BK104.out 6
         go_wp2_with ((go_at_call 27; (with_reducible refine (asm_IsSym.calls kj10 a0_6 false _ A38.out).mono ?_); rintro e w' ⟨rfl, ⟨nd, rfl⟩⟩))
         go_ret
         exact ⟨by rfl, by repeat ((with_reducible first | exact HB.out | apply pw_below_drewN))⟩
       ·rw [if_neg c37] at H
        have c37b0 : (a0_1 == 2) = false := beq_eq_false_iff_ne.mpr c37
        have c37b1 : (a0_1 != 2) = true := bne_iff_ne.mpr c37
        by_cases c42 : a0_1 = 28
        ·rw [if_pos c42] at H
         have c42b0 : (a0_1 == 28) = true := beq_iff_eq.mpr c42
         have c42b1 : (a0_1 != 28) = false := bne_eq_false_iff_eq.mpr c42
         clear c42
         replace H := Option.bind_eq_some_iff.mp H
         obtain ⟨t116, A430, H⟩ := H
         replace H : (if t116 = true then (some (a0_5 == 0)) else (some false)) = some r := H
         have A43 := Aside0.mk A430
         clear A430
         by_cases c44 : t116 = true
         ·subst c44
          have H1 : (some (a0_5 == 0)) = some r := by rw [if_pos rfl] at H; exact H
          clear H
          have H := H1
          clear H1
          obtain rfl := Option.some.inj H
          have hcz45_0 : wc.cell? ⟨gb104, 0, none⟩ = some (.int .i64 a0_0) := (blk_cell BK104.out 0).trans rfl
          have hcz45_1 : wc.cell? ⟨gb104, 1, none⟩ = some (.int .i64 a0_1) := (blk_cell BK104.out 1).trans rfl
          have hcz45_2 : wc.cell? ⟨gb104, 2, none⟩ = some (.int .i64 a0_2) := (blk_cell BK104.out 2).trans rfl
          have hcz45_3 : wc.cell? ⟨gb104, 3, none⟩ = some (.int .i64 a0_3) := (blk_cell BK104.out 3).trans rfl
          have hcz45_4 : wc.cell? ⟨gb104, 4, none⟩ = some (.int .i64 a0_4) := (blk_cell BK104.out 4).trans rfl
          have hcz45_5 : wc.cell? ⟨gb104, 5, none⟩ = some (.int .i32 a0_5) := (blk_cell BK104.out 5).trans rfl
          have hcz45_6 : wc.cell? ⟨gb104, 6, none⟩ = some (.string a0_6) := (blk_cell BK104.out 6).trans rfl
          have hfz45_0 := blk_frozen BK104.out 0
          have hfz45_1 := blk_frozen BK104.out 1
          have hfz45_2 := blk_frozen BK104.out 2
          have hfz45_3 := blk_frozen BK104.out 3
          have hfz45_4 := blk_frozen BK104.out 4
          have hfz45_5 := blk_frozen BK104.out 5
          have hfz45_6 := blk_frozen BK104.out 6
          go_wp2_with ((go_at_call 27; (with_reducible refine (asm_IsSym.calls kj10 a0_6 true _ A43.out).mono ?_); rintro e w' ⟨rfl, ⟨nd, rfl⟩⟩))
          go_ret
          exact ⟨by rfl, by repeat ((with_reducible first | exact HB.out | apply pw_below_drewN))⟩
         ·replace c44 := Bool.eq_false_iff.mpr c44
          subst c44
          have H1 : (some false) = some r := by rw [if_neg (show ¬ (false = true) by decide)] at H; exact H
          clear H
          have H := H1
          clear H1
          obtain rfl := Option.some.inj H
          have hcz46_0 : wc.cell? ⟨gb104, 0, none⟩ = some (.int .i64 a0_0) := (blk_cell BK104.out 0).trans rfl
          have hcz46_1 : wc.cell? ⟨gb104, 1, none⟩ = some (.int .i64 a0_1) := (blk_cell BK104.out 1).trans rfl
          have hcz46_2 : wc.cell? ⟨gb104, 2, none⟩ = some (.int .i64 a0_2) := (blk_cell BK104.out 2).trans rfl
          have hcz46_3 : wc.cell? ⟨gb104, 3, none⟩ = some (.int .i64 a0_3) := (blk_cell BK104.out 3).trans rfl
          have hcz46_4 : wc.cell? ⟨gb104, 4, none⟩ = some (.int .i64 a0_4) := (blk_cell BK104.out 4).trans rfl
          have hcz46_5 : wc.cell? ⟨gb104, 5, none⟩ = some (.int .i32 a0_5) := (blk_cell BK104.out 5).trans rfl
          have hcz46_6 : wc.cell? ⟨gb104, 6, none⟩ = some (.string a0_6) := (blk_cell BK104.out 6).trans rfl
          have hfz46_0 := blk_frozen BK104.out 0
          have hfz46_1 := blk_frozen BK104.out 1
          have hfz46_2 := blk_frozen BK104.out 2
          have hfz46_3 := blk_frozen BK104.out 3
          have hfz46_4 := blk_frozen BK104.out 4
          have hfz46_5 := blk_frozen BK104.out 5
          have hfz46_6 := blk_frozen BK104.out 6
          go_wp2_with ((go_at_call 27; (with_reducible refine (asm_IsSym.calls kj10 a0_6 false _ A43.out).mono ?_); rintro e w' ⟨rfl, ⟨nd, rfl⟩⟩))
          go_ret
          exact ⟨by rfl, by repeat ((with_reducible first | exact HB.out | apply pw_below_drewN))⟩
        ·rw [if_neg c42] at H
         have c42b0 : (a0_1 == 28) = false := beq_eq_false_iff_ne.mpr c42
         have c42b1 : (a0_1 != 28) = true := bne_iff_ne.mpr c42
         obtain rfl := Option.some.inj H
         have hcz47_0 : wc.cell? ⟨gb104, 0, none⟩ = some (.int .i64 a0_0) := (blk_cell BK104.out 0).trans rfl
         have hcz47_1 : wc.cell? ⟨gb104, 1, none⟩ = some (.int .i64 a0_1) := (blk_cell BK104.out 1).trans rfl
         have hcz47_2 : wc.cell? ⟨gb104, 2, none⟩ = some (.int .i64 a0_2) := (blk_cell BK104.out 2).trans rfl
         have hcz47_3 : wc.cell? ⟨gb104, 3, none⟩ = some (.int .i64 a0_3) := (blk_cell BK104.out 3).trans rfl
         have hcz47_4 : wc.cell? ⟨gb104, 4, none⟩ = some (.int .i64 a0_4) := (blk_cell BK104.out 4).trans rfl
         have hcz47_5 : wc.cell? ⟨gb104, 5, none⟩ = some (.int .i32 a0_5) := (blk_cell BK104.out 5).trans rfl
         have hcz47_6 : wc.cell? ⟨gb104, 6, none⟩ = some (.string a0_6) := (blk_cell BK104.out 6).trans rfl
         have hfz47_0 := blk_frozen BK104.out 0
         have hfz47_1 := blk_frozen BK104.out 1
         have hfz47_2 := blk_frozen BK104.out 2
         have hfz47_3 := blk_frozen BK104.out 3
         have hfz47_4 := blk_frozen BK104.out 4
         have hfz47_5 := blk_frozen BK104.out 5
         have hfz47_6 := blk_frozen BK104.out 6
         go_wp2
         go_ret
         exact ⟨by rfl, by repeat ((with_reducible exact HB.out))⟩

/-! ### code_rest: function 34 -/
def code_rest.f (a0 : Int) : Option (Int) := if a0 = 21 then (some 33554483) else (if a0 = 22 then (some 33570867) else (if a0 = 23 then (some 33579059) else (if a0 = 24 then (some 8195) else (if a0 = 25 then (some 8227) else (if a0 = 26 then (some 99) else (if a0 = 27 then (some 4195) else (if a0 = 28 then (some 111) else (if a0 = 29 then (some 103) else (some 115)))))))))
set_option maxHeartbeats 8000000 in
set_option maxRecDepth 100000 in
theorem code_rest.calls (a0 : Int) (r : Int) (w : World) (h : code_rest.f a0 = some r) :
  Calls Try.prog 34 #[.int .i64 a0] w fun e w' => e = .returned (.int .u32 r) ∧ Drawn0 w w' := by
 have H : (if a0 = 21 then (some 33554483) else (if a0 = 22 then (some 33570867) else (if a0 = 23 then (some 33579059) else (if a0 = 24 then (some 8195) else (if a0 = 25 then (some 8227) else (if a0 = 26 then (some 99) else (if a0 = 27 then (some 4195) else (if a0 = 28 then (some 111) else (if a0 = 29 then (some 103) else (some 115)))))))))) = some r := h
 clear h
 by_cases c2 : a0 = 21
 ·rw [if_pos c2] at H
  have c2b0 : (a0 == 21) = true := beq_iff_eq.mpr c2
  have c2b1 : (a0 != 21) = false := bne_eq_false_iff_eq.mpr c2
  clear c2
  obtain rfl := Option.some.inj H
  go_enter Try.func34, Try.ntmps34
  go_wp2
  go_ret
  exact ⟨by rfl, by repeat (exact Drawn0.refl _)⟩
 ·rw [if_neg c2] at H
  have c2b0 : (a0 == 21) = false := beq_eq_false_iff_ne.mpr c2
  have c2b1 : (a0 != 21) = true := bne_iff_ne.mpr c2
  by_cases c3 : a0 = 22
  ·rw [if_pos c3] at H
   have c3b0 : (a0 == 22) = true := beq_iff_eq.mpr c3
   have c3b1 : (a0 != 22) = false := bne_eq_false_iff_eq.mpr c3
   clear c3
   obtain rfl := Option.some.inj H
   go_enter Try.func34, Try.ntmps34
   go_wp2
   go_ret
   exact ⟨by rfl, by repeat (exact Drawn0.refl _)⟩
  ·rw [if_neg c3] at H
   have c3b0 : (a0 == 22) = false := beq_eq_false_iff_ne.mpr c3
   have c3b1 : (a0 != 22) = true := bne_iff_ne.mpr c3
   by_cases c4 : a0 = 23
   ·rw [if_pos c4] at H
    have c4b0 : (a0 == 23) = true := beq_iff_eq.mpr c4
    have c4b1 : (a0 != 23) = false := bne_eq_false_iff_eq.mpr c4
    clear c4
    obtain rfl := Option.some.inj H
    go_enter Try.func34, Try.ntmps34
    go_wp2
    go_ret
    exact ⟨by rfl, by repeat (exact Drawn0.refl _)⟩
   ·rw [if_neg c4] at H
    have c4b0 : (a0 == 23) = false := beq_eq_false_iff_ne.mpr c4
    have c4b1 : (a0 != 23) = true := bne_iff_ne.mpr c4
    by_cases c5 : a0 = 24
    ·rw [if_pos c5] at H
     have c5b0 : (a0 == 24) = true := beq_iff_eq.mpr c5
     have c5b1 : (a0 != 24) = false := bne_eq_false_iff_eq.mpr c5
     clear c5
     obtain rfl := Option.some.inj H
     go_enter Try.func34, Try.ntmps34
     go_wp2
     go_ret
     exact ⟨by rfl, by repeat (exact Drawn0.refl _)⟩
    ·rw [if_neg c5] at H
     have c5b0 : (a0 == 24) = false := beq_eq_false_iff_ne.mpr c5
     have c5b1 : (a0 != 24) = true := bne_iff_ne.mpr c5
     by_cases c6 : a0 = 25
     ·rw [if_pos c6] at H
      have c6b0 : (a0 == 25) = true := beq_iff_eq.mpr c6
      have c6b1 : (a0 != 25) = false := bne_eq_false_iff_eq.mpr c6
      clear c6
      obtain rfl := Option.some.inj H
      go_enter Try.func34, Try.ntmps34
      go_wp2
      go_ret
      exact ⟨by rfl, by repeat (exact Drawn0.refl _)⟩
     ·rw [if_neg c6] at H
      have c6b0 : (a0 == 25) = false := beq_eq_false_iff_ne.mpr c6
      have c6b1 : (a0 != 25) = true := bne_iff_ne.mpr c6
      by_cases c7 : a0 = 26
      ·rw [if_pos c7] at H
       have c7b0 : (a0 == 26) = true := beq_iff_eq.mpr c7
       have c7b1 : (a0 != 26) = false := bne_eq_false_iff_eq.mpr c7
       clear c7
       obtain rfl := Option.some.inj H
       go_enter Try.func34, Try.ntmps34
       go_wp2
       go_ret
       exact ⟨by rfl, by repeat (exact Drawn0.refl _)⟩
      ·rw [if_neg c7] at H
       have c7b0 : (a0 == 26) = false := beq_eq_false_iff_ne.mpr c7
       have c7b1 : (a0 != 26) = true := bne_iff_ne.mpr c7
       by_cases c8 : a0 = 27
       ·rw [if_pos c8] at H
        have c8b0 : (a0 == 27) = true := beq_iff_eq.mpr c8
        have c8b1 : (a0 != 27) = false := bne_eq_false_iff_eq.mpr c8
        clear c8
        obtain rfl := Option.some.inj H
        go_enter Try.func34, Try.ntmps34
        go_wp2
        go_ret
        exact ⟨by rfl, by repeat (exact Drawn0.refl _)⟩
       ·rw [if_neg c8] at H
        have c8b0 : (a0 == 27) = false := beq_eq_false_iff_ne.mpr c8
        have c8b1 : (a0 != 27) = true := bne_iff_ne.mpr c8
        by_cases c9 : a0 = 28
        ·rw [if_pos c9] at H
         have c9b0 : (a0 == 28) = true := beq_iff_eq.mpr c9
         have c9b1 : (a0 != 28) = false := bne_eq_false_iff_eq.mpr c9
         clear c9
         obtain rfl := Option.some.inj H
         go_enter Try.func34, Try.ntmps34
         go_wp2
         go_ret
         exact ⟨by rfl, by repeat (exact Drawn0.refl _)⟩
        ·rw [if_neg c9] at H
         have c9b0 : (a0 == 28) = false := beq_eq_false_iff_ne.mpr c9
         have c9b1 : (a0 != 28) = true := bne_iff_ne.mpr c9
         by_cases c10 : a0 = 29
         ·rw [if_pos c10] at H
          have c10b0 : (a0 == 29) = true := beq_iff_eq.mpr c10
          have c10b1 : (a0 != 29) = false := bne_eq_false_iff_eq.mpr c10
          clear c10
          obtain rfl := Option.some.inj H
          go_enter Try.func34, Try.ntmps34
          go_wp2
          go_ret
          exact ⟨by rfl, by repeat (exact Drawn0.refl _)⟩
         ·rw [if_neg c10] at H
          have c10b0 : (a0 == 29) = false := beq_eq_false_iff_ne.mpr c10
          have c10b1 : (a0 != 29) = true := bne_iff_ne.mpr c10
          obtain rfl := Option.some.inj H
          go_enter Try.func34, Try.ntmps34
          go_wp2
          go_ret
          exact ⟨by rfl, by repeat (exact Drawn0.refl _)⟩

end Go.Proofs.Ytpoofggcodiaiaa.X
