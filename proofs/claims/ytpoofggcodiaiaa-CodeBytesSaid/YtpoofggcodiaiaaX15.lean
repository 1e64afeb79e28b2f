/- The walks: for each Go function a Lean function with the same answers, and the proof that the Go code comes to them; no condition beyond what each contract states. Written by this session's own program xprint.py (over the kit's print program); not one of print.sh's texts. -/
import Derived.Test.YtpoofggcodiaiaaX0
import Derived.Test.YtpoofggcodiaiaaX6
namespace Go.Proofs.Ytpoofggcodiaiaa.X
open Go.RowKit Go.Proofs.YtpoofggcodiaiaaW.PrintWords Go.Proofs.YtpoofggcodiaiaaW.PrintLast Go.Proofs.YtpoofggcodiaiaaW.PrintMore
attribute [local go_sem] max2_int min2_int max_two min_two max_three min_three max_four min_four   -- for this text's walks alone
set_option linter.unusedVariables false
set_option linter.unusedSimpArgs false

/-! ### code_regs: function 19 -/
mutual
def code_regs.j0 : Nat → Int → Bool → Option (Bool × Bool × Bool)
 | 0, _, _ => none
 | k + 1, x0, x5 => if x5 = true then (some (true, false, false)) else (if x0 ≥ 2 then (if x0 ≤ 10 then (code_regs.j1 k x0 true) else (if x0 = 24 then (code_regs.j1 k x0 true) else (code_regs.j1 k x0 (x0 == 29)))) else (if x0 = 24 then (code_regs.j1 k x0 true) else (code_regs.j1 k x0 (x0 == 29))))
def code_regs.j1 : Nat → Int → Bool → Option (Bool × Bool × Bool)
 | 0, _, _ => none
 | k + 1, x0, x12 => if x12 = true then (some (true, true, false)) else (if x0 ≥ 11 then (code_regs.j2 k x0 (decide (x0 ≤ 23))) else (code_regs.j2 k x0 false))
def code_regs.j2 : Nat → Int → Bool → Option (Bool × Bool × Bool)
 | 0, _, _ => none
 | k + 1, x0, x27 => if x27 = true then (some (true, true, true)) else (if x0 = 25 then (some (false, true, true)) else (if x0 = 26 then (some (false, true, true)) else (if x0 = 27 then (some (false, true, true)) else (some (false, false, false)))))
end
def code_regs.f (k : Nat) (a0 : Int) : Option (Bool × Bool × Bool) := if a0 = 1 then (code_regs.j0 k a0 true) else (code_regs.j0 k a0 (a0 == 28))
theorem code_regs.mono_l : ∀ k, (∀ y0 y1, LeO (code_regs.j0 k y0 y1) (code_regs.j0 (k + 1) y0 y1)) ∧ (∀ y0 y1, LeO (code_regs.j1 k y0 y1) (code_regs.j1 (k + 1) y0 y1)) ∧ (∀ y0 y1, LeO (code_regs.j2 k y0 y1) (code_regs.j2 (k + 1) y0 y1))
 | 0 => ⟨fun _ _ r h => by simp [code_regs.j0] at h, fun _ _ r h => by simp [code_regs.j1] at h, fun _ _ r h => by simp [code_regs.j2] at h⟩
 | k + 1 => by
  obtain ⟨ih0, ih1, ih2⟩ := code_regs.mono_l k
  refine ⟨?_, ?_, ?_⟩
  ·intro y0 y1
   unfold code_regs.j0
   repeat' first
   | (with_reducible exact ih0 _ _)
   | (with_reducible exact ih1 _ _)
   | (with_reducible exact ih2 _ _)
   | (with_reducible exact LeO.refl _)
   | (with_reducible exact LeO.none _)
   | (with_reducible refine LeO.ite ?_ ?_)
   | (with_reducible refine LeO.bind ?_ (fun _ => ?_))
   | exact ih0 _ _
   | exact ih1 _ _
   | exact ih2 _ _
   | exact LeO.none _
   | refine LeO.ite ?_ ?_
   | refine LeO.bind ?_ (fun _ => ?_)
  ·intro y0 y1
   unfold code_regs.j1
   repeat' first
   | (with_reducible exact ih0 _ _)
   | (with_reducible exact ih1 _ _)
   | (with_reducible exact ih2 _ _)
   | (with_reducible exact LeO.refl _)
   | (with_reducible exact LeO.none _)
   | (with_reducible refine LeO.ite ?_ ?_)
   | (with_reducible refine LeO.bind ?_ (fun _ => ?_))
   | exact ih0 _ _
   | exact ih1 _ _
   | exact ih2 _ _
   | exact LeO.none _
   | refine LeO.ite ?_ ?_
   | refine LeO.bind ?_ (fun _ => ?_)
  ·intro y0 y1
   unfold code_regs.j2
   repeat' first
   | (with_reducible exact ih0 _ _)
   | (with_reducible exact ih1 _ _)
   | (with_reducible exact ih2 _ _)
   | (with_reducible exact LeO.refl _)
   | (with_reducible exact LeO.none _)
   | (with_reducible refine LeO.ite ?_ ?_)
   | (with_reducible refine LeO.bind ?_ (fun _ => ?_))
   | exact ih0 _ _
   | exact ih1 _ _
   | exact ih2 _ _
   | exact LeO.none _
   | refine LeO.ite ?_ ?_
   | refine LeO.bind ?_ (fun _ => ?_)
theorem code_regs.mono : ∀ a0 k, LeO (code_regs.f k a0) (code_regs.f (k + 1) a0) := by
 intro a0 k
 obtain ⟨ih0, ih1, ih2⟩ := code_regs.mono_l k
 unfold code_regs.f
 repeat' first
   | (with_reducible exact ih0 _ _)
   | (with_reducible exact ih1 _ _)
   | (with_reducible exact ih2 _ _)
   | (with_reducible exact LeO.refl _)
   | (with_reducible exact LeO.none _)
   | (with_reducible refine LeO.ite ?_ ?_)
   | (with_reducible refine LeO.bind ?_ (fun _ => ?_))
   | exact ih0 _ _
   | exact ih1 _ _
   | exact ih2 _ _
   | exact LeO.none _
   | refine LeO.ite ?_ ?_
   | refine LeO.bind ?_ (fun _ => ?_)
set_option maxHeartbeats 8000000 in
set_option maxRecDepth 100000 in
theorem code_regs.calls (k : Nat) (a0 : Int) (r1 : Bool) (r2 : Bool) (r3 : Bool) (w : World) (h : code_regs.f k a0 = some (r1, r2, r3)) :
  Calls Try.prog 19 #[.int .i64 a0] w fun e w' => e = .returned (.tuple #[.bool r1, .bool r2, .bool r3]) ∧ Drawn0 w w' := by
 have H : (if a0 = 1 then (code_regs.j0 k a0 true) else (code_regs.j0 k a0 (a0 == 28))) = some (r1, r2, r3) := h
 clear h
 have HC2 := Aside0.mk H
 clear H
 go_enter Try.func19, Try.ntmps19
 go_upto_region 1 with (fail)
 go_cut [5] (fun v5 wc => ∃ (kq : Nat) (x5_1 : Bool), v5 = .bool x5_1 ∧ Aside0 (code_regs.j0 kq a0 x5_1 = some (r1, r2, r3)) ∧ Aside0 (kq ≤ k) ∧ Drawn0 w wc)
 case first =>
  have H := HC2.out
  clear HC2
  by_cases c3 : a0 = 1
  ·rw [if_pos c3] at H
   have c3b0 : (a0 == 1) = true := beq_iff_eq.mpr c3
   have c3b1 : (a0 != 1) = false := bne_eq_false_iff_eq.mpr c3
   clear c3
   have H' := Aside0.mk H
   clear H
   go_wp2
   go_meet
   case rel => exact ⟨_, (true), (by rfl), H', ⟨by omega⟩, by repeat (exact Drawn0.refl _)⟩
  ·rw [if_neg c3] at H
   have c3b0 : (a0 == 1) = false := beq_eq_false_iff_ne.mpr c3
   have c3b1 : (a0 != 1) = true := bne_iff_ne.mpr c3
   have H' := Aside0.mk H
   clear H
   go_wp2
   go_meet
   case rel => exact ⟨_, ((a0 == 28)), (by rfl), H', ⟨by omega⟩, by repeat (exact Drawn0.refl _)⟩
 case rest =>
  clear HC2
  obtain ⟨kq, x5_1, rfl, HA, HJ1, ⟨mc1, rfl⟩⟩ := hcut
  cases kq with
  | zero => exact absurd HA.out (by simp [code_regs.j0])
  | succ kj1 =>
   have H := HA.out
   clear HA
   simp only [code_regs.j0] at H
   by_cases c4 : x5_1 = true
   ·subst c4
    have H1 : (some (true, false, false)) = some (r1, r2, r3) := by rw [if_pos rfl] at H; exact H
    clear H
    have H := H1
    clear H1
    simp only [Option.some.injEq, Prod.mk.injEq] at H
    obtain ⟨rfl, rfl, rfl⟩ := H
    go_wp2
    go_ret3
    exact ⟨by rfl, by repeat (first | exact Drawn0.refl _ | apply Drawn0.step)⟩
   ·replace c4 := Bool.eq_false_iff.mpr c4
    subst c4
    have H1 : (if a0 ≥ 2 then (if a0 ≤ 10 then (code_regs.j1 kj1 a0 true) else (if a0 = 24 then (code_regs.j1 kj1 a0 true) else (code_regs.j1 kj1 a0 (a0 == 29)))) else (if a0 = 24 then (code_regs.j1 kj1 a0 true) else (code_regs.j1 kj1 a0 (a0 == 29)))) = some (r1, r2, r3) := by rw [if_neg (show ¬ (false = true) by decide)] at H; exact H
    clear H
    have H := H1
    clear H1
    have HC5 := Aside0.mk H
    clear H
    go_upto_region 3 with (fail)
    go_cut [12] (fun v12 wc => ∃ (kq : Nat) (x12_4 : Bool), v12 = .bool x12_4 ∧ Aside0 (code_regs.j1 kq a0 x12_4 = some (r1, r2, r3)) ∧ Aside0 (kq ≤ kj1) ∧ Drawn0 w wc)
    case first =>
     have H := HC5.out
     clear HC5
     by_cases c6 : a0 ≥ 2
     ·rw [if_pos c6] at H
      have c6b0 : decide (2 ≤ a0) = true := decide_eq_true c6
      clear c6
      by_cases c7 : a0 ≤ 10
      ·rw [if_pos c7] at H
       have c7b0 : decide (a0 ≤ 10) = true := decide_eq_true c7
       clear c7
       have H' := Aside0.mk H
       clear H
       go_wp2
       go_meet
       case rel => exact ⟨_, (true), (by rfl), H', ⟨by have := HJ1.out; omega⟩, by repeat (first | exact Drawn0.refl _ | apply Drawn0.step)⟩
      ·rw [if_neg c7] at H
       have c7b0 : decide (a0 ≤ 10) = false := decide_eq_false c7
       clear c7
       by_cases c8 : a0 = 24
       ·rw [if_pos c8] at H
        have c8b0 : (a0 == 24) = true := beq_iff_eq.mpr c8
        have c8b1 : (a0 != 24) = false := bne_eq_false_iff_eq.mpr c8
        clear c8
        have H' := Aside0.mk H
        clear H
        go_wp2
        go_meet
        case rel => exact ⟨_, (true), (by rfl), H', ⟨by have := HJ1.out; omega⟩, by repeat (first | exact Drawn0.refl _ | apply Drawn0.step)⟩
       ·rw [if_neg c8] at H
        have c8b0 : (a0 == 24) = false := beq_eq_false_iff_ne.mpr c8
        have c8b1 : (a0 != 24) = true := bne_iff_ne.mpr c8
        have H' := Aside0.mk H
        clear H
        go_wp2
        go_meet
        case rel => exact ⟨_, ((a0 == 29)), (by rfl), H', ⟨by have := HJ1.out; omega⟩, by repeat (first | exact Drawn0.refl _ | apply Drawn0.step)⟩
     ·rw [if_neg c6] at H
      have c6b0 : decide (2 ≤ a0) = false := decide_eq_false c6
      clear c6
      by_cases c9 : a0 = 24
      ·rw [if_pos c9] at H
       have c9b0 : (a0 == 24) = true := beq_iff_eq.mpr c9
       have c9b1 : (a0 != 24) = false := bne_eq_false_iff_eq.mpr c9
       clear c9
       have H' := Aside0.mk H
       clear H
       go_wp2
       go_meet
       case rel => exact ⟨_, (true), (by rfl), H', ⟨by have := HJ1.out; omega⟩, by repeat (first | exact Drawn0.refl _ | apply Drawn0.step)⟩
      ·rw [if_neg c9] at H
       have c9b0 : (a0 == 24) = false := beq_eq_false_iff_ne.mpr c9
       have c9b1 : (a0 != 24) = true := bne_iff_ne.mpr c9
       have H' := Aside0.mk H
       clear H
       go_wp2
       go_meet
       case rel => exact ⟨_, ((a0 == 29)), (by rfl), H', ⟨by have := HJ1.out; omega⟩, by repeat (first | exact Drawn0.refl _ | apply Drawn0.step)⟩
    case rest =>
     clear HC5
     obtain ⟨kq, x12_4, rfl, HA, HJ4, ⟨mc4, rfl⟩⟩ := hcut
     cases kq with
     | zero => exact absurd HA.out (by simp [code_regs.j1])
     | succ kj4 =>
      have H := HA.out
      clear HA
      simp only [code_regs.j1] at H
      by_cases c10 : x12_4 = true
      ·subst c10
       have H1 : (some (true, true, false)) = some (r1, r2, r3) := by rw [if_pos rfl] at H; exact H
       clear H
       have H := H1
       clear H1
       simp only [Option.some.injEq, Prod.mk.injEq] at H
       obtain ⟨rfl, rfl, rfl⟩ := H
       go_wp2
       go_ret3
       exact ⟨by rfl, by repeat (first | exact Drawn0.refl _ | apply Drawn0.step)⟩
      ·replace c10 := Bool.eq_false_iff.mpr c10
       subst c10
       have H1 : (if a0 ≥ 11 then (code_regs.j2 kj4 a0 (decide (a0 ≤ 23))) else (code_regs.j2 kj4 a0 false)) = some (r1, r2, r3) := by rw [if_neg (show ¬ (false = true) by decide)] at H; exact H
       clear H
       have H := H1
       clear H1
       have HC11 := Aside0.mk H
       clear H
       go_upto_region 5 with (fail)
       go_cut [27] (fun v27 wc => ∃ (kq : Nat) (x27_10 : Bool), v27 = .bool x27_10 ∧ Aside0 (code_regs.j2 kq a0 x27_10 = some (r1, r2, r3)) ∧ Aside0 (kq ≤ kj4) ∧ Drawn0 w wc)
       case first =>
        have H := HC11.out
        clear HC11
        by_cases c12 : a0 ≥ 11
        ·rw [if_pos c12] at H
         have c12b0 : decide (11 ≤ a0) = true := decide_eq_true c12
         clear c12
         have H' := Aside0.mk H
         clear H
         go_wp2
         go_meet
         case rel => exact ⟨_, (decide (a0 ≤ 23)), (by rfl), H', ⟨by have := HJ1.out; have := HJ4.out; omega⟩, by repeat (first | exact Drawn0.refl _ | apply Drawn0.step)⟩
        ·rw [if_neg c12] at H
         have c12b0 : decide (11 ≤ a0) = false := decide_eq_false c12
         clear c12
         have H' := Aside0.mk H
         clear H
         go_wp2
         go_meet
         case rel => exact ⟨_, (false), (by rfl), H', ⟨by have := HJ1.out; have := HJ4.out; omega⟩, by repeat (first | exact Drawn0.refl _ | apply Drawn0.step)⟩
       case rest =>
        clear HC11
        obtain ⟨kq, x27_10, rfl, HA, HJ10, ⟨mc10, rfl⟩⟩ := hcut
        cases kq with
        | zero => exact absurd HA.out (by simp [code_regs.j2])
        | succ kj10 =>
         have H := HA.out
         clear HA
         simp only [code_regs.j2] at H
         by_cases c13 : x27_10 = true
         ·subst c13
          have H1 : (some (true, true, true)) = some (r1, r2, r3) := by rw [if_pos rfl] at H; exact H
          clear H
          have H := H1
          clear H1
          simp only [Option.some.injEq, Prod.mk.injEq] at H
          obtain ⟨rfl, rfl, rfl⟩ := H
          go_wp2
          go_ret3
          exact ⟨by rfl, by repeat (first | exact Drawn0.refl _ | apply Drawn0.step)⟩
         ·replace c13 := Bool.eq_false_iff.mpr c13
          subst c13
          have H1 : (if a0 = 25 then (some (false, true, true)) else (if a0 = 26 then (some (false, true, true)) else (if a0 = 27 then (some (false, true, true)) else (some (false, false, false))))) = some (r1, r2, r3) := by rw [if_neg (show ¬ (false = true) by decide)] at H; exact H
          clear H
          have H := H1
          clear H1
          by_cases c14 : a0 = 25
          ·rw [if_pos c14] at H
           have c14b0 : (a0 == 25) = true := beq_iff_eq.mpr c14
           have c14b1 : (a0 != 25) = false := bne_eq_false_iff_eq.mpr c14
           clear c14
           simp only [Option.some.injEq, Prod.mk.injEq] at H
           obtain ⟨rfl, rfl, rfl⟩ := H
           go_wp2
           go_ret3
           exact ⟨by rfl, by repeat (first | exact Drawn0.refl _ | apply Drawn0.step)⟩
          ·rw [if_neg c14] at H
           have c14b0 : (a0 == 25) = false := beq_eq_false_iff_ne.mpr c14
           have c14b1 : (a0 != 25) = true := bne_iff_ne.mpr c14
           by_cases c15 : a0 = 26
           ·rw [if_pos c15] at H
            have c15b0 : (a0 == 26) = true := beq_iff_eq.mpr c15
            have c15b1 : (a0 != 26) = false := bne_eq_false_iff_eq.mpr c15
            clear c15
            simp only [Option.some.injEq, Prod.mk.injEq] at H
            obtain ⟨rfl, rfl, rfl⟩ := H
            go_wp2
            go_ret3
            exact ⟨by rfl, by repeat (first | exact Drawn0.refl _ | apply Drawn0.step)⟩
           ·rw [if_neg c15] at H
            have c15b0 : (a0 == 26) = false := beq_eq_false_iff_ne.mpr c15
            have c15b1 : (a0 != 26) = true := bne_iff_ne.mpr c15
            by_cases c16 : a0 = 27
            ·rw [if_pos c16] at H
             have c16b0 : (a0 == 27) = true := beq_iff_eq.mpr c16
             have c16b1 : (a0 != 27) = false := bne_eq_false_iff_eq.mpr c16
             clear c16
             simp only [Option.some.injEq, Prod.mk.injEq] at H
             obtain ⟨rfl, rfl, rfl⟩ := H
             go_wp2
             go_ret3
             exact ⟨by rfl, by repeat (first | exact Drawn0.refl _ | apply Drawn0.step)⟩
            ·rw [if_neg c16] at H
             have c16b0 : (a0 == 27) = false := beq_eq_false_iff_ne.mpr c16
             have c16b1 : (a0 != 27) = true := bne_iff_ne.mpr c16
             simp only [Option.some.injEq, Prod.mk.injEq] at H
             obtain ⟨rfl, rfl, rfl⟩ := H
             go_wp2
             go_ret3
             exact ⟨by rfl, by repeat (first | exact Drawn0.refl _ | apply Drawn0.step)⟩

/-! ### code_reg: function 20 -/
def code_reg.f (a0 : Bool) (a1 : Int) (a2 : Int) : Option (Int) := if a0 = true then ((code_field.f a1 a2 5 0).bind fun t196 => (some (wrap64 (t196)))) else (some 0)
set_option maxHeartbeats 8000000 in
set_option maxRecDepth 100000 in
theorem code_reg.calls (a0 : Bool) (a1 : Int) (a2 : Int) (r : Int) (w : World) (h : code_reg.f a0 a1 a2 = some r) :
  Calls Try.prog 20 #[.bool a0, .int .u32 a1, .int .i64 a2] w fun e w' => e = .returned (.int .i64 r) ∧ Drawn0 w w' := by
 have H : (if a0 = true then ((code_field.f a1 a2 5 0).bind fun t196 => (some (wrap64 (t196)))) else (some 0)) = some r := h
 clear h
 by_cases c4 : a0 = true
 ·subst c4
  have H1 : ((code_field.f a1 a2 5 0).bind fun t196 => (some (wrap64 (t196)))) = some r := by rw [if_pos rfl] at H; exact H
  clear H
  have H := H1
  clear H1
  replace H := Option.bind_eq_some_iff.mp H
  obtain ⟨t196, A50, H⟩ := H
  replace H : (some (wrap64 (t196))) = some r := H
  have A5 := Aside0.mk A50
  clear A50
  obtain rfl := Option.some.inj H
  go_enter Try.func20, Try.ntmps20
  go_wp2_with (((with_reducible refine gate_callee (f := 35) rfl ?_); refine goesL_ (some 11) rfl rfl Try.func35 (by kernel_rfl) rfl #[.int .u32 a1, .int .i64 a2, .int .i64 5, .int .i64 0] rfl (by (try simp only [List.map_toArray, List.map_cons, List.map_nil]); rfl) ?_; (with_reducible refine (code_field.calls a1 a2 5 0 t196 _ A5.out).mono ?_); rintro e w' ⟨rfl, ⟨nd, rfl⟩⟩; refine ⟨_, rfl, ?_⟩))
  go_ret
  exact ⟨by rfl, by repeat (first | exact Drawn0.refl _ | apply Drawn0.step)⟩
 ·replace c4 := Bool.eq_false_iff.mpr c4
  subst c4
  have H1 : (some 0) = some r := by rw [if_neg (show ¬ (false = true) by decide)] at H; exact H
  clear H
  have H := H1
  clear H1
  obtain rfl := Option.some.inj H
  go_enter Try.func20, Try.ntmps20
  go_wp2
  go_ret
  exact ⟨by rfl, by repeat (exact Drawn0.refl _)⟩

/-! ### code_signed: function 37 -/
def code_signed.f (a0 : Int) (a1 : Int) : Option (Int) := if 0 ≤ (wrap64 (32 - a1)) then (some (shr .i32 (wrap32 (shl .u32 a0 (wrap64 (32 - a1)))) (wrap64 (32 - a1)))) else (none)
set_option maxHeartbeats 8000000 in
set_option maxRecDepth 100000 in
theorem code_signed.calls (a0 : Int) (a1 : Int) (r : Int) (w : World) (h : code_signed.f a0 a1 = some r) :
  Calls Try.prog 37 #[.int .u32 a0, .int .i64 a1] w fun e w' => e = .returned (.int .i32 r) ∧ Drawn0 w w' := by
 have H : (if 0 ≤ (wrap64 (32 - a1)) then (some (shr .i32 (wrap32 (shl .u32 a0 (wrap64 (32 - a1)))) (wrap64 (32 - a1)))) else (none)) = some r := h
 clear h
 obtain ⟨ji3, hji3⟩ : ∃ j_ : Int, (wrap64 (32 - a1)) = j_ := ⟨_, rfl⟩
 replace H : (if 0 ≤ (ji3) then (some (shr .i32 (wrap32 (shl .u32 a0 (ji3))) (ji3))) else (none)) = some r := by (rw [hji3] at H; exact H)
 have hji3w : (IntKind.i64.wrap (32 - a1)) = ji3 := (i64_w _).trans hji3
 by_cases c4 : 0 ≤ (ji3)
 ·rw [if_pos c4] at H
  have c4b0 := eq_true c4
  have c4b1 : decide (0 ≤ (ji3)) = true := decide_eq_true c4
  clear c4
  obtain ⟨ji5, hji5⟩ : ∃ j_ : Int, (shl .u32 a0 (ji3)) = j_ := ⟨_, rfl⟩
  replace H : (some (shr .i32 (wrap32 (ji5)) (ji3))) = some r := by (rw [hji5] at H; exact H)
  have hji5_ : (IntKind.u32.wrap (a0 * 2 ^ min (ji3).toNat 32)) = ji5 := hji5
  have hji5z : (ji3) ≤ 32 → (IntKind.u32.wrap (a0 * 2 ^ (ji3).toNat)) = ji5 := shl_small hji5
  have c6b0 := eq_true (of_decide_eq_true (by (with_reducible assumption)) : 0 ≤ (ji3))
  obtain ⟨ji7, hji7⟩ : ∃ j_ : Int, (shr .i32 (wrap32 (ji5)) (ji3)) = j_ := ⟨_, rfl⟩
  replace H : (some ji7) = some r := by (rw [hji7] at H; exact H)
  have hji7_ : ((wrap32 (ji5)) / 2 ^ min (ji3).toNat 32) = ji7 := hji7
  have hji7z : (ji3) ≤ 32 → ((wrap32 (ji5)) / 2 ^ (ji3).toNat) = ji7 := shr_small hji7
  obtain rfl := Option.some.inj H
  go_enter Try.func37, Try.ntmps37
  go_wp2
  go_ret
  exact ⟨by rfl, by repeat (exact Drawn0.refl _)⟩
 ·rw [if_neg c4] at H
  exact absurd H (by simp)

/-! ### code_back: function 21 -/
mutual
def code_back.j0 : Nat → Int → Int → Bool → Option (Int)
 | 0, _, _, _ => none
 | k + 1, x0, x1, x20 => if x20 = true then ((code_field.f x1 8 4 1).bind fun t200 => ((code_field.f x1 25 6 5).bind fun t201 => ((code_field.f x1 7 1 11).bind fun t202 => ((code_field.f x1 31 1 12).bind fun t203 => ((code_signed.f (Go.bits .or .u32 (Go.bits .or .u32 (Go.bits .or .u32 t200 t201) t202) t203) 13).bind fun t204 => (some t204)))))) else (if x0 = 28 then ((code_field.f x1 21 10 1).bind fun t205 => ((code_field.f x1 20 1 11).bind fun t206 => ((code_field.f x1 12 8 12).bind fun t207 => ((code_field.f x1 31 1 20).bind fun t208 => ((code_signed.f (Go.bits .or .u32 (Go.bits .or .u32 (Go.bits .or .u32 t205 t206) t207) t208) 21).bind fun t209 => (some t209)))))) else (if x0 ≥ 8 then (code_back.j1 k x0 x1 (decide (x0 ≤ 10))) else (code_back.j1 k x0 x1 false)))
def code_back.j1 : Nat → Int → Int → Bool → Option (Int)
 | 0, _, _, _ => none
 | k + 1, x0, x1, x54 => if x54 = true then ((code_field.f x1 20 5 0).bind fun t210 => (some (wrap32 (t210)))) else (if x0 ≥ 2 then (if x0 ≤ 7 then ((code_signed.f (x1 / 1048576) 12).bind fun t211 => (some t211)) else (if x0 = 24 then ((code_signed.f (x1 / 1048576) 12).bind fun t212 => (some t212)) else (if x0 = 29 then ((code_signed.f (x1 / 1048576) 12).bind fun t213 => (some t213)) else (some 0)))) else (if x0 = 24 then ((code_signed.f (x1 / 1048576) 12).bind fun t214 => (some t214)) else (if x0 = 29 then ((code_signed.f (x1 / 1048576) 12).bind fun t215 => (some t215)) else (some 0))))
end
def code_back.f (k : Nat) (a0 : Int) (a1 : Int) : Option (Int) := if a0 = 1 then (some (wrap32 (a1 / 4096))) else (if a0 = 25 then ((code_field.f a1 7 5 0).bind fun t197 => ((code_field.f a1 25 7 5).bind fun t198 => ((code_signed.f (Go.bits .or .u32 t197 t198) 12).bind fun t199 => (some t199)))) else (if a0 = 26 then (code_back.j0 k a0 a1 true) else (code_back.j0 k a0 a1 (a0 == 27))))
theorem code_back.mono_l : ∀ k, (∀ y0 y1 y2, LeO (code_back.j0 k y0 y1 y2) (code_back.j0 (k + 1) y0 y1 y2)) ∧ (∀ y0 y1 y2, LeO (code_back.j1 k y0 y1 y2) (code_back.j1 (k + 1) y0 y1 y2))
 | 0 => ⟨fun _ _ _ r h => by simp [code_back.j0] at h, fun _ _ _ r h => by simp [code_back.j1] at h⟩
 | k + 1 => by
  obtain ⟨ih0, ih1⟩ := code_back.mono_l k
  refine ⟨?_, ?_⟩
  ·intro y0 y1 y2
   unfold code_back.j0
   repeat' first
   | (with_reducible exact ih0 _ _ _)
   | (with_reducible exact ih1 _ _ _)
   | (with_reducible exact LeO.refl _)
   | (with_reducible exact LeO.none _)
   | (with_reducible refine LeO.ite ?_ ?_)
   | (with_reducible refine LeO.bind ?_ (fun _ => ?_))
   | exact ih0 _ _ _
   | exact ih1 _ _ _
   | exact LeO.none _
   | refine LeO.ite ?_ ?_
   | refine LeO.bind ?_ (fun _ => ?_)
  ·intro y0 y1 y2
   unfold code_back.j1
   repeat' first
   | (with_reducible exact ih0 _ _ _)
   | (with_reducible exact ih1 _ _ _)
   | (with_reducible exact LeO.refl _)
   | (with_reducible exact LeO.none _)
   | (with_reducible refine LeO.ite ?_ ?_)
   | (with_reducible refine LeO.bind ?_ (fun _ => ?_))
   | exact ih0 _ _ _
   | exact ih1 _ _ _
   | exact LeO.none _
   | refine LeO.ite ?_ ?_
   | refine LeO.bind ?_ (fun _ => ?_)
theorem code_back.mono : ∀ a0 a1 k, LeO (code_back.f k a0 a1) (code_back.f (k + 1) a0 a1) := by
 intro a0 a1 k
 obtain ⟨ih0, ih1⟩ := code_back.mono_l k
 unfold code_back.f
 repeat' first
   | (with_reducible exact ih0 _ _ _)
   | (with_reducible exact ih1 _ _ _)
   | (with_reducible exact LeO.refl _)
   | (with_reducible exact LeO.none _)
   | (with_reducible refine LeO.ite ?_ ?_)
   | (with_reducible refine LeO.bind ?_ (fun _ => ?_))
   | exact ih0 _ _ _
   | exact ih1 _ _ _
   | exact LeO.none _
   | refine LeO.ite ?_ ?_
   | refine LeO.bind ?_ (fun _ => ?_)
set_option maxHeartbeats 8000000 in
set_option maxRecDepth 100000 in
theorem code_back.calls (k : Nat) (a0 : Int) (a1 : Int) (r : Int) (w : World) (h : code_back.f k a0 a1 = some r) :
  Calls Try.prog 21 #[.int .i64 a0, .int .u32 a1] w fun e w' => e = .returned (.int .i32 r) ∧ Drawn0 w w' := by
 have H : (if a0 = 1 then (some (wrap32 (a1 / 4096))) else (if a0 = 25 then ((code_field.f a1 7 5 0).bind fun t197 => ((code_field.f a1 25 7 5).bind fun t198 => ((code_signed.f (Go.bits .or .u32 t197 t198) 12).bind fun t199 => (some t199)))) else (if a0 = 26 then (code_back.j0 k a0 a1 true) else (code_back.j0 k a0 a1 (a0 == 27))))) = some r := h
 clear h
 by_cases c3 : a0 = 1
 ·rw [if_pos c3] at H
  have c3b0 : (a0 == 1) = true := beq_iff_eq.mpr c3
  have c3b1 : (a0 != 1) = false := bne_eq_false_iff_eq.mpr c3
  clear c3
  obtain rfl := Option.some.inj H
  go_enter Try.func21, Try.ntmps21
  go_wp2
  go_ret
  exact ⟨by rfl, by repeat (exact Drawn0.refl _)⟩
 ·rw [if_neg c3] at H
  have c3b0 : (a0 == 1) = false := beq_eq_false_iff_ne.mpr c3
  have c3b1 : (a0 != 1) = true := bne_iff_ne.mpr c3
  by_cases c4 : a0 = 25
  ·rw [if_pos c4] at H
   have c4b0 : (a0 == 25) = true := beq_iff_eq.mpr c4
   have c4b1 : (a0 != 25) = false := bne_eq_false_iff_eq.mpr c4
   clear c4
   replace H := Option.bind_eq_some_iff.mp H
   obtain ⟨t197, A50, H⟩ := H
   replace H : ((code_field.f a1 25 7 5).bind fun t198 => ((code_signed.f (Go.bits .or .u32 t197 t198) 12).bind fun t199 => (some t199))) = some r := H
   have A5 := Aside0.mk A50
   clear A50
   replace H := Option.bind_eq_some_iff.mp H
   obtain ⟨t198, A60, H⟩ := H
   replace H : ((code_signed.f (Go.bits .or .u32 t197 t198) 12).bind fun t199 => (some t199)) = some r := H
   have A6 := Aside0.mk A60
   clear A60
   replace H := Option.bind_eq_some_iff.mp H
   obtain ⟨t199, A70, H⟩ := H
   replace H : (some t199) = some r := H
   have A7 := Aside0.mk A70
   clear A70
   obtain rfl := Option.some.inj H
   go_enter Try.func21, Try.ntmps21
   go_wp2_with (first | ((with_reducible refine gate_callee (f := 35) rfl ?_); refine goesL_ (some 15) rfl rfl Try.func35 (by kernel_rfl) rfl #[.int .u32 a1, .int .i64 7, .int .i64 5, .int .i64 0] rfl (by (try simp only [List.map_toArray, List.map_cons, List.map_nil]); rfl) ?_; (with_reducible refine (code_field.calls a1 7 5 0 t197 _ A5.out).mono ?_); rintro e w' ⟨rfl, ⟨nd, rfl⟩⟩; refine ⟨_, rfl, ?_⟩) | ((with_reducible refine gate_callee (f := 35) rfl ?_); refine goesL_ (some 17) rfl rfl Try.func35 (by kernel_rfl) rfl #[.int .u32 a1, .int .i64 25, .int .i64 7, .int .i64 5] rfl (by (try simp only [List.map_toArray, List.map_cons, List.map_nil]); rfl) ?_; (with_reducible refine (code_field.calls a1 25 7 5 t198 _ A6.out).mono ?_); rintro e w' ⟨rfl, ⟨nd, rfl⟩⟩; refine ⟨_, rfl, ?_⟩) | ((with_reducible refine gate_callee (f := 37) rfl ?_); refine goesL_ (some 19) rfl rfl Try.func37 (by kernel_rfl) rfl #[.int .u32 (Go.bits .or .u32 t197 t198), .int .i64 12] rfl (by (try simp only [List.map_toArray, List.map_cons, List.map_nil]); rfl) ?_; (with_reducible refine (code_signed.calls (Go.bits .or .u32 t197 t198) 12 t199 _ A7.out).mono ?_); rintro e w' ⟨rfl, ⟨nd, rfl⟩⟩; refine ⟨_, rfl, ?_⟩))
   go_ret
   exact ⟨by rfl, by repeat (first | exact Drawn0.refl _ | apply Drawn0.step)⟩
  ·rw [if_neg c4] at H
   have c4b0 : (a0 == 25) = false := beq_eq_false_iff_ne.mpr c4
   have c4b1 : (a0 != 25) = true := bne_iff_ne.mpr c4
   have HC8 := Aside0.mk H
   clear H
   go_enter Try.func21, Try.ntmps21
   go_upto_region 5 with (fail)
   go_cut [20] (fun v20 wc => ∃ (kq : Nat) (x20_7 : Bool), v20 = .bool x20_7 ∧ Aside0 (code_back.j0 kq a0 a1 x20_7 = some r) ∧ Aside0 (kq ≤ k) ∧ Drawn0 w wc)
   case first =>
    have H := HC8.out
    clear HC8
    by_cases c9 : a0 = 26
    ·rw [if_pos c9] at H
     have c9b0 : (a0 == 26) = true := beq_iff_eq.mpr c9
     have c9b1 : (a0 != 26) = false := bne_eq_false_iff_eq.mpr c9
     clear c9
     have H' := Aside0.mk H
     clear H
     go_wp2
     go_meet
     case rel => exact ⟨_, (true), (by rfl), H', ⟨by omega⟩, by repeat (exact Drawn0.refl _)⟩
    ·rw [if_neg c9] at H
     have c9b0 : (a0 == 26) = false := beq_eq_false_iff_ne.mpr c9
     have c9b1 : (a0 != 26) = true := bne_iff_ne.mpr c9
     have H' := Aside0.mk H
     clear H
     go_wp2
     go_meet
     case rel => exact ⟨_, ((a0 == 27)), (by rfl), H', ⟨by omega⟩, by repeat (exact Drawn0.refl _)⟩
   case rest =>
    clear HC8 c3 c3b0 c3b1 c4 c4b0 c4b1
    obtain ⟨kq, x20_7, rfl, HA, HJ7, ⟨mc7, rfl⟩⟩ := hcut
    cases kq with
    | zero => exact absurd HA.out (by simp [code_back.j0])
    | succ kj7 =>
     have H := HA.out
     clear HA
     simp only [code_back.j0] at H
     by_cases c10 : x20_7 = true
     ·subst c10
      have H1 : ((code_field.f a1 8 4 1).bind fun t200 => ((code_field.f a1 25 6 5).bind fun t201 => ((code_field.f a1 7 1 11).bind fun t202 => ((code_field.f a1 31 1 12).bind fun t203 => ((code_signed.f (Go.bits .or .u32 (Go.bits .or .u32 (Go.bits .or .u32 t200 t201) t202) t203) 13).bind fun t204 => (some t204)))))) = some r := by rw [if_pos rfl] at H; exact H
      clear H
      have H := H1
      clear H1
      replace H := Option.bind_eq_some_iff.mp H
      obtain ⟨t200, A110, H⟩ := H
      replace H : ((code_field.f a1 25 6 5).bind fun t201 => ((code_field.f a1 7 1 11).bind fun t202 => ((code_field.f a1 31 1 12).bind fun t203 => ((code_signed.f (Go.bits .or .u32 (Go.bits .or .u32 (Go.bits .or .u32 t200 t201) t202) t203) 13).bind fun t204 => (some t204))))) = some r := H
      have A11 := Aside0.mk A110
      clear A110
      replace H := Option.bind_eq_some_iff.mp H
      obtain ⟨t201, A120, H⟩ := H
      replace H : ((code_field.f a1 7 1 11).bind fun t202 => ((code_field.f a1 31 1 12).bind fun t203 => ((code_signed.f (Go.bits .or .u32 (Go.bits .or .u32 (Go.bits .or .u32 t200 t201) t202) t203) 13).bind fun t204 => (some t204)))) = some r := H
      have A12 := Aside0.mk A120
      clear A120
      replace H := Option.bind_eq_some_iff.mp H
      obtain ⟨t202, A130, H⟩ := H
      replace H : ((code_field.f a1 31 1 12).bind fun t203 => ((code_signed.f (Go.bits .or .u32 (Go.bits .or .u32 (Go.bits .or .u32 t200 t201) t202) t203) 13).bind fun t204 => (some t204))) = some r := H
      have A13 := Aside0.mk A130
      clear A130
      replace H := Option.bind_eq_some_iff.mp H
      obtain ⟨t203, A140, H⟩ := H
      replace H : ((code_signed.f (Go.bits .or .u32 (Go.bits .or .u32 (Go.bits .or .u32 t200 t201) t202) t203) 13).bind fun t204 => (some t204)) = some r := H
      have A14 := Aside0.mk A140
      clear A140
      replace H := Option.bind_eq_some_iff.mp H
      obtain ⟨t204, A150, H⟩ := H
      replace H : (some t204) = some r := H
      have A15 := Aside0.mk A150
      clear A150
      obtain rfl := Option.some.inj H
      go_wp2_with (first | ((with_reducible refine gate_callee (f := 35) rfl ?_); refine goesL_ (some 28) rfl rfl Try.func35 (by kernel_rfl) rfl #[.int .u32 a1, .int .i64 8, .int .i64 4, .int .i64 1] rfl (by (try simp only [List.map_toArray, List.map_cons, List.map_nil]); rfl) ?_; (with_reducible refine (code_field.calls a1 8 4 1 t200 _ A11.out).mono ?_); rintro e w' ⟨rfl, ⟨nd, rfl⟩⟩; refine ⟨_, rfl, ?_⟩) | ((with_reducible refine gate_callee (f := 35) rfl ?_); refine goesL_ (some 30) rfl rfl Try.func35 (by kernel_rfl) rfl #[.int .u32 a1, .int .i64 25, .int .i64 6, .int .i64 5] rfl (by (try simp only [List.map_toArray, List.map_cons, List.map_nil]); rfl) ?_; (with_reducible refine (code_field.calls a1 25 6 5 t201 _ A12.out).mono ?_); rintro e w' ⟨rfl, ⟨nd, rfl⟩⟩; refine ⟨_, rfl, ?_⟩) | ((with_reducible refine gate_callee (f := 35) rfl ?_); refine goesL_ (some 33) rfl rfl Try.func35 (by kernel_rfl) rfl #[.int .u32 a1, .int .i64 7, .int .i64 1, .int .i64 11] rfl (by (try simp only [List.map_toArray, List.map_cons, List.map_nil]); rfl) ?_; (with_reducible refine (code_field.calls a1 7 1 11 t202 _ A13.out).mono ?_); rintro e w' ⟨rfl, ⟨nd, rfl⟩⟩; refine ⟨_, rfl, ?_⟩) | ((with_reducible refine gate_callee (f := 35) rfl ?_); refine goesL_ (some 36) rfl rfl Try.func35 (by kernel_rfl) rfl #[.int .u32 a1, .int .i64 31, .int .i64 1, .int .i64 12] rfl (by (try simp only [List.map_toArray, List.map_cons, List.map_nil]); rfl) ?_; (with_reducible refine (code_field.calls a1 31 1 12 t203 _ A14.out).mono ?_); rintro e w' ⟨rfl, ⟨nd, rfl⟩⟩; refine ⟨_, rfl, ?_⟩) | ((with_reducible refine gate_callee (f := 37) rfl ?_); refine goesL_ (some 38) rfl rfl Try.func37 (by kernel_rfl) rfl #[.int .u32 (Go.bits .or .u32 (Go.bits .or .u32 (Go.bits .or .u32 t200 t201) t202) t203), .int .i64 13] rfl (by (try simp only [List.map_toArray, List.map_cons, List.map_nil]); rfl) ?_; (with_reducible refine (code_signed.calls (Go.bits .or .u32 (Go.bits .or .u32 (Go.bits .or .u32 t200 t201) t202) t203) 13 t204 _ A15.out).mono ?_); rintro e w' ⟨rfl, ⟨nd, rfl⟩⟩; refine ⟨_, rfl, ?_⟩))
      go_ret
      exact ⟨by rfl, by repeat (first | exact Drawn0.refl _ | apply Drawn0.step)⟩
     ·replace c10 := Bool.eq_false_iff.mpr c10
      subst c10
      have H1 : (if a0 = 28 then ((code_field.f a1 21 10 1).bind fun t205 => ((code_field.f a1 20 1 11).bind fun t206 => ((code_field.f a1 12 8 12).bind fun t207 => ((code_field.f a1 31 1 20).bind fun t208 => ((code_signed.f (Go.bits .or .u32 (Go.bits .or .u32 (Go.bits .or .u32 t205 t206) t207) t208) 21).bind fun t209 => (some t209)))))) else (if a0 ≥ 8 then (code_back.j1 kj7 a0 a1 (decide (a0 ≤ 10))) else (code_back.j1 kj7 a0 a1 false))) = some r := by rw [if_neg (show ¬ (false = true) by decide)] at H; exact H
      clear H
      have H := H1
      clear H1
      by_cases c16 : a0 = 28
      ·rw [if_pos c16] at H
       have c16b0 : (a0 == 28) = true := beq_iff_eq.mpr c16
       have c16b1 : (a0 != 28) = false := bne_eq_false_iff_eq.mpr c16
       clear c16
       replace H := Option.bind_eq_some_iff.mp H
       obtain ⟨t205, A170, H⟩ := H
       replace H : ((code_field.f a1 20 1 11).bind fun t206 => ((code_field.f a1 12 8 12).bind fun t207 => ((code_field.f a1 31 1 20).bind fun t208 => ((code_signed.f (Go.bits .or .u32 (Go.bits .or .u32 (Go.bits .or .u32 t205 t206) t207) t208) 21).bind fun t209 => (some t209))))) = some r := H
       have A17 := Aside0.mk A170
       clear A170
       replace H := Option.bind_eq_some_iff.mp H
       obtain ⟨t206, A180, H⟩ := H
       replace H : ((code_field.f a1 12 8 12).bind fun t207 => ((code_field.f a1 31 1 20).bind fun t208 => ((code_signed.f (Go.bits .or .u32 (Go.bits .or .u32 (Go.bits .or .u32 t205 t206) t207) t208) 21).bind fun t209 => (some t209)))) = some r := H
       have A18 := Aside0.mk A180
       clear A180
       replace H := Option.bind_eq_some_iff.mp H
       obtain ⟨t207, A190, H⟩ := H
       replace H : ((code_field.f a1 31 1 20).bind fun t208 => ((code_signed.f (Go.bits .or .u32 (Go.bits .or .u32 (Go.bits .or .u32 t205 t206) t207) t208) 21).bind fun t209 => (some t209))) = some r := H
       have A19 := Aside0.mk A190
       clear A190
       replace H := Option.bind_eq_some_iff.mp H
       obtain ⟨t208, A200, H⟩ := H
       replace H : ((code_signed.f (Go.bits .or .u32 (Go.bits .or .u32 (Go.bits .or .u32 t205 t206) t207) t208) 21).bind fun t209 => (some t209)) = some r := H
       have A20 := Aside0.mk A200
       clear A200
       replace H := Option.bind_eq_some_iff.mp H
       obtain ⟨t209, A210, H⟩ := H
       replace H : (some t209) = some r := H
       have A21 := Aside0.mk A210
       clear A210
       obtain rfl := Option.some.inj H
       go_wp2_with (first | ((with_reducible refine gate_callee (f := 35) rfl ?_); refine goesL_ (some 43) rfl rfl Try.func35 (by kernel_rfl) rfl #[.int .u32 a1, .int .i64 21, .int .i64 10, .int .i64 1] rfl (by (try simp only [List.map_toArray, List.map_cons, List.map_nil]); rfl) ?_; (with_reducible refine (code_field.calls a1 21 10 1 t205 _ A17.out).mono ?_); rintro e w' ⟨rfl, ⟨nd, rfl⟩⟩; refine ⟨_, rfl, ?_⟩) | ((with_reducible refine gate_callee (f := 35) rfl ?_); refine goesL_ (some 45) rfl rfl Try.func35 (by kernel_rfl) rfl #[.int .u32 a1, .int .i64 20, .int .i64 1, .int .i64 11] rfl (by (try simp only [List.map_toArray, List.map_cons, List.map_nil]); rfl) ?_; (with_reducible refine (code_field.calls a1 20 1 11 t206 _ A18.out).mono ?_); rintro e w' ⟨rfl, ⟨nd, rfl⟩⟩; refine ⟨_, rfl, ?_⟩) | ((with_reducible refine gate_callee (f := 35) rfl ?_); refine goesL_ (some 48) rfl rfl Try.func35 (by kernel_rfl) rfl #[.int .u32 a1, .int .i64 12, .int .i64 8, .int .i64 12] rfl (by (try simp only [List.map_toArray, List.map_cons, List.map_nil]); rfl) ?_; (with_reducible refine (code_field.calls a1 12 8 12 t207 _ A19.out).mono ?_); rintro e w' ⟨rfl, ⟨nd, rfl⟩⟩; refine ⟨_, rfl, ?_⟩) | ((with_reducible refine gate_callee (f := 35) rfl ?_); refine goesL_ (some 51) rfl rfl Try.func35 (by kernel_rfl) rfl #[.int .u32 a1, .int .i64 31, .int .i64 1, .int .i64 20] rfl (by (try simp only [List.map_toArray, List.map_cons, List.map_nil]); rfl) ?_; (with_reducible refine (code_field.calls a1 31 1 20 t208 _ A20.out).mono ?_); rintro e w' ⟨rfl, ⟨nd, rfl⟩⟩; refine ⟨_, rfl, ?_⟩) | ((with_reducible refine gate_callee (f := 37) rfl ?_); refine goesL_ (some 53) rfl rfl Try.func37 (by kernel_rfl) rfl #[.int .u32 (Go.bits .or .u32 (Go.bits .or .u32 (Go.bits .or .u32 t205 t206) t207) t208), .int .i64 21] rfl (by (try simp only [List.map_toArray, List.map_cons, List.map_nil]); rfl) ?_; (with_reducible refine (code_signed.calls (Go.bits .or .u32 (Go.bits .or .u32 (Go.bits .or .u32 t205 t206) t207) t208) 21 t209 _ A21.out).mono ?_); rintro e w' ⟨rfl, ⟨nd, rfl⟩⟩; refine ⟨_, rfl, ?_⟩))
       go_ret
       exact ⟨by rfl, by repeat (first | exact Drawn0.refl _ | apply Drawn0.step)⟩
      ·rw [if_neg c16] at H
       have c16b0 : (a0 == 28) = false := beq_eq_false_iff_ne.mpr c16
       have c16b1 : (a0 != 28) = true := bne_iff_ne.mpr c16
       have HC22 := Aside0.mk H
       clear H
       go_upto_region 9 with (fail)
       go_cut [54] (fun v54 wc => ∃ (kq : Nat) (x54_21 : Bool), v54 = .bool x54_21 ∧ Aside0 (code_back.j1 kq a0 a1 x54_21 = some r) ∧ Aside0 (kq ≤ kj7) ∧ Drawn0 w wc)
       case first =>
        have H := HC22.out
        clear HC22
        by_cases c23 : a0 ≥ 8
        ·rw [if_pos c23] at H
         have c23b0 : decide (8 ≤ a0) = true := decide_eq_true c23
         clear c23
         have H' := Aside0.mk H
         clear H
         go_wp2
         go_meet
         case rel => exact ⟨_, (decide (a0 ≤ 10)), (by rfl), H', ⟨by have := HJ7.out; omega⟩, by repeat (first | exact Drawn0.refl _ | apply Drawn0.step)⟩
        ·rw [if_neg c23] at H
         have c23b0 : decide (8 ≤ a0) = false := decide_eq_false c23
         clear c23
         have H' := Aside0.mk H
         clear H
         go_wp2
         go_meet
         case rel => exact ⟨_, (false), (by rfl), H', ⟨by have := HJ7.out; omega⟩, by repeat (first | exact Drawn0.refl _ | apply Drawn0.step)⟩
       case rest =>
        clear HC22 c16 c16b0 c16b1
        obtain ⟨kq, x54_21, rfl, HA, HJ21, ⟨mc21, rfl⟩⟩ := hcut
        cases kq with
        | zero => exact absurd HA.out (by simp [code_back.j1])
        | succ kj21 =>
         have H := HA.out
         clear HA
         simp only [code_back.j1] at H
         by_cases c24 : x54_21 = true
         ·subst c24
          have H1 : ((code_field.f a1 20 5 0).bind fun t210 => (some (wrap32 (t210)))) = some r := by rw [if_pos rfl] at H; exact H
          clear H
          have H := H1
          clear H1
          replace H := Option.bind_eq_some_iff.mp H
          obtain ⟨t210, A250, H⟩ := H
          replace H : (some (wrap32 (t210))) = some r := H
          have A25 := Aside0.mk A250
          clear A250
          obtain rfl := Option.some.inj H
          go_wp2_with (((with_reducible refine gate_callee (f := 35) rfl ?_); refine goesL_ (some 62) rfl rfl Try.func35 (by kernel_rfl) rfl #[.int .u32 a1, .int .i64 20, .int .i64 5, .int .i64 0] rfl (by (try simp only [List.map_toArray, List.map_cons, List.map_nil]); rfl) ?_; (with_reducible refine (code_field.calls a1 20 5 0 t210 _ A25.out).mono ?_); rintro e w' ⟨rfl, ⟨nd, rfl⟩⟩; refine ⟨_, rfl, ?_⟩))
          go_ret
          exact ⟨by rfl, by repeat (first | exact Drawn0.refl _ | apply Drawn0.step)⟩
         ·replace c24 := Bool.eq_false_iff.mpr c24
          subst c24
          have H1 : (if a0 ≥ 2 then (if a0 ≤ 7 then ((code_signed.f (a1 / 1048576) 12).bind fun t211 => (some t211)) else (if a0 = 24 then ((code_signed.f (a1 / 1048576) 12).bind fun t212 => (some t212)) else (if a0 = 29 then ((code_signed.f (a1 / 1048576) 12).bind fun t213 => (some t213)) else (some 0)))) else (if a0 = 24 then ((code_signed.f (a1 / 1048576) 12).bind fun t214 => (some t214)) else (if a0 = 29 then ((code_signed.f (a1 / 1048576) 12).bind fun t215 => (some t215)) else (some 0)))) = some r := by rw [if_neg (show ¬ (false = true) by decide)] at H; exact H
          clear H
          have H := H1
          clear H1
          by_cases c26 : a0 ≥ 2
          ·rw [if_pos c26] at H
           have c26b0 : decide (2 ≤ a0) = true := decide_eq_true c26
           clear c26
           by_cases c27 : a0 ≤ 7
           ·rw [if_pos c27] at H
            have c27b0 : decide (a0 ≤ 7) = true := decide_eq_true c27
            clear c27
            replace H := Option.bind_eq_some_iff.mp H
            obtain ⟨t211, A280, H⟩ := H
            replace H : (some t211) = some r := H
            have A28 := Aside0.mk A280
            clear A280
            obtain rfl := Option.some.inj H
            go_wp2_with (((with_reducible refine gate_callee (f := 37) rfl ?_); refine goesL_ (some 81) rfl rfl Try.func37 (by kernel_rfl) rfl #[.int .u32 (a1 / 1048576), .int .i64 12] rfl (by (try simp only [List.map_toArray, List.map_cons, List.map_nil]); rfl) ?_; (with_reducible refine (code_signed.calls (a1 / 1048576) 12 t211 _ A28.out).mono ?_); rintro e w' ⟨rfl, ⟨nd, rfl⟩⟩; refine ⟨_, rfl, ?_⟩))
            go_ret
            exact ⟨by rfl, by repeat (first | exact Drawn0.refl _ | apply Drawn0.step)⟩
           ·rw [if_neg c27] at H
            have c27b0 : decide (a0 ≤ 7) = false := decide_eq_false c27
            clear c27
            by_cases c29 : a0 = 24
            ·rw [if_pos c29] at H
             have c29b0 : (a0 == 24) = true := beq_iff_eq.mpr c29
             have c29b1 : (a0 != 24) = false := bne_eq_false_iff_eq.mpr c29
             clear c29
             replace H := Option.bind_eq_some_iff.mp H
             obtain ⟨t212, A300, H⟩ := H
             replace H : (some t212) = some r := H
             have A30 := Aside0.mk A300
             clear A300
             obtain rfl := Option.some.inj H
             go_wp2_with (((with_reducible refine gate_callee (f := 37) rfl ?_); refine goesL_ (some 81) rfl rfl Try.func37 (by kernel_rfl) rfl #[.int .u32 (a1 / 1048576), .int .i64 12] rfl (by (try simp only [List.map_toArray, List.map_cons, List.map_nil]); rfl) ?_; (with_reducible refine (code_signed.calls (a1 / 1048576) 12 t212 _ A30.out).mono ?_); rintro e w' ⟨rfl, ⟨nd, rfl⟩⟩; refine ⟨_, rfl, ?_⟩))
             go_ret
             exact ⟨by rfl, by repeat (first | exact Drawn0.refl _ | apply Drawn0.step)⟩
            ·rw [if_neg c29] at H
             have c29b0 : (a0 == 24) = false := beq_eq_false_iff_ne.mpr c29
             have c29b1 : (a0 != 24) = true := bne_iff_ne.mpr c29
             by_cases c31 : a0 = 29
             ·rw [if_pos c31] at H
              have c31b0 : (a0 == 29) = true := beq_iff_eq.mpr c31
              have c31b1 : (a0 != 29) = false := bne_eq_false_iff_eq.mpr c31
              clear c31
              replace H := Option.bind_eq_some_iff.mp H
              obtain ⟨t213, A320, H⟩ := H
              replace H : (some t213) = some r := H
              have A32 := Aside0.mk A320
              clear A320
              obtain rfl := Option.some.inj H
              go_wp2_with (((with_reducible refine gate_callee (f := 37) rfl ?_); refine goesL_ (some 81) rfl rfl Try.func37 (by kernel_rfl) rfl #[.int .u32 (a1 / 1048576), .int .i64 12] rfl (by (try simp only [List.map_toArray, List.map_cons, List.map_nil]); rfl) ?_; (with_reducible refine (code_signed.calls (a1 / 1048576) 12 t213 _ A32.out).mono ?_); rintro e w' ⟨rfl, ⟨nd, rfl⟩⟩; refine ⟨_, rfl, ?_⟩))
              go_ret
              exact ⟨by rfl, by repeat (first | exact Drawn0.refl _ | apply Drawn0.step)⟩
             ·rw [if_neg c31] at H
              have c31b0 : (a0 == 29) = false := beq_eq_false_iff_ne.mpr c31
              have c31b1 : (a0 != 29) = true := bne_iff_ne.mpr c31
              obtain rfl := Option.some.inj H
              go_wp2
              go_ret
              exact ⟨by rfl, by repeat (first | exact Drawn0.refl _ | apply Drawn0.step)⟩
          ·rw [if_neg c26] at H
           have c26b0 : decide (2 ≤ a0) = false := decide_eq_false c26
           clear c26
           by_cases c33 : a0 = 24
           ·rw [if_pos c33] at H
            have c33b0 : (a0 == 24) = true := beq_iff_eq.mpr c33
            have c33b1 : (a0 != 24) = false := bne_eq_false_iff_eq.mpr c33
            clear c33
            replace H := Option.bind_eq_some_iff.mp H
            obtain ⟨t214, A340, H⟩ := H
            replace H : (some t214) = some r := H
            have A34 := Aside0.mk A340
            clear A340
            obtain rfl := Option.some.inj H
            go_wp2_with (((with_reducible refine gate_callee (f := 37) rfl ?_); refine goesL_ (some 81) rfl rfl Try.func37 (by kernel_rfl) rfl #[.int .u32 (a1 / 1048576), .int .i64 12] rfl (by (try simp only [List.map_toArray, List.map_cons, List.map_nil]); rfl) ?_; (with_reducible refine (code_signed.calls (a1 / 1048576) 12 t214 _ A34.out).mono ?_); rintro e w' ⟨rfl, ⟨nd, rfl⟩⟩; refine ⟨_, rfl, ?_⟩))
            go_ret
            exact ⟨by rfl, by repeat (first | exact Drawn0.refl _ | apply Drawn0.step)⟩
           ·rw [if_neg c33] at H
            have c33b0 : (a0 == 24) = false := beq_eq_false_iff_ne.mpr c33
            have c33b1 : (a0 != 24) = true := bne_iff_ne.mpr c33
            by_cases c35 : a0 = 29
            ·rw [if_pos c35] at H
             have c35b0 : (a0 == 29) = true := beq_iff_eq.mpr c35
             have c35b1 : (a0 != 29) = false := bne_eq_false_iff_eq.mpr c35
             clear c35
             replace H := Option.bind_eq_some_iff.mp H
             obtain ⟨t215, A360, H⟩ := H
             replace H : (some t215) = some r := H
             have A36 := Aside0.mk A360
             clear A360
             obtain rfl := Option.some.inj H
             go_wp2_with (((with_reducible refine gate_callee (f := 37) rfl ?_); refine goesL_ (some 81) rfl rfl Try.func37 (by kernel_rfl) rfl #[.int .u32 (a1 / 1048576), .int .i64 12] rfl (by (try simp only [List.map_toArray, List.map_cons, List.map_nil]); rfl) ?_; (with_reducible refine (code_signed.calls (a1 / 1048576) 12 t215 _ A36.out).mono ?_); rintro e w' ⟨rfl, ⟨nd, rfl⟩⟩; refine ⟨_, rfl, ?_⟩))
             go_ret
             exact ⟨by rfl, by repeat (first | exact Drawn0.refl _ | apply Drawn0.step)⟩
            ·rw [if_neg c35] at H
             have c35b0 : (a0 == 29) = false := beq_eq_false_iff_ne.mpr c35
             have c35b1 : (a0 != 29) = true := bne_iff_ne.mpr c35
             obtain rfl := Option.some.inj H
             go_wp2
             go_ret
             exact ⟨by rfl, by repeat (first | exact Drawn0.refl _ | apply Drawn0.step)⟩

end Go.Proofs.Ytpoofggcodiaiaa.X
