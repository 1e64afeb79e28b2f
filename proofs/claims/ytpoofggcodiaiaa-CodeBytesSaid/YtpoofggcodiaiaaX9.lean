/- The walks: for each Go function a Lean function with the same answers, and the proof that the Go code comes to them; no condition beyond what each contract states. Written by this session's own program xprint.py (over the kit's print program); not one of print.sh's texts. -/
import Derived.Test.YtpoofggcodiaiaaX0
namespace Go.Proofs.Ytpoofggcodiaiaa.X
open Go.RowKit Go.Proofs.YtpoofggcodiaiaaW.PrintWords Go.Proofs.YtpoofggcodiaiaaW.PrintLast Go.Proofs.YtpoofggcodiaiaaW.PrintMore
attribute [local go_sem] max2_int min2_int max_two min_two max_three min_three max_four min_four   -- for this text's walks alone
set_option linter.unusedVariables false
set_option linter.unusedSimpArgs false

/-! ### brazierref17_num: function 24 -/
mutual
def brazierref17_num.j0 : Nat → Int → Int → Bool → Option (Bool)
 | 0, _, _, _ => none
 | k + 1, x0, x1, x14 => if x14 = true then (if x1 ≥ (-2048) then (some (decide (x1 ≤ 2047))) else (some false)) else (if x0 ≥ 8 then (brazierref17_num.j1 k x0 x1 (decide (x0 ≤ 10))) else (brazierref17_num.j1 k x0 x1 false))
def brazierref17_num.j1 : Nat → Int → Int → Bool → Option (Bool)
 | 0, _, _, _ => none
 | k + 1, x0, x1, x39 => if x39 = true then (if x1 ≥ 0 then (some (decide (x1 ≤ 31))) else (some false)) else (if x0 = 26 then (brazierref17_num.j2 k x0 x1 true) else (brazierref17_num.j2 k x0 x1 (x0 == 27)))
def brazierref17_num.j2 : Nat → Int → Int → Bool → Option (Bool)
 | 0, _, _, _ => none
 | k + 1, x0, x1, x52 => if x52 = true then (if x1 ≥ (-4096) then (if x1 ≤ 4094 then (some ((Int.tmod x1 2) == 0)) else (some false)) else (some false)) else (if x0 = 28 then (if x1 ≥ (-1048576) then (if x1 ≤ 1048574 then (some ((Int.tmod x1 2) == 0)) else (some false)) else (some false)) else (some (x1 == 0)))
end
def brazierref17_num.f (k : Nat) (a0 : Int) (a1 : Int) : Option (Bool) := if a0 = 1 then (if a1 ≥ 0 then (some (decide (a1 ≤ 1048575))) else (some false)) else (if a0 ≥ 2 then (if a0 ≤ 7 then (brazierref17_num.j0 k a0 a1 true) else (if a0 = 24 then (brazierref17_num.j0 k a0 a1 true) else (if a0 = 25 then (brazierref17_num.j0 k a0 a1 true) else (brazierref17_num.j0 k a0 a1 (a0 == 29))))) else (if a0 = 24 then (brazierref17_num.j0 k a0 a1 true) else (if a0 = 25 then (brazierref17_num.j0 k a0 a1 true) else (brazierref17_num.j0 k a0 a1 (a0 == 29)))))
theorem brazierref17_num.mono_l : ∀ k, (∀ y0 y1 y2, LeO (brazierref17_num.j0 k y0 y1 y2) (brazierref17_num.j0 (k + 1) y0 y1 y2)) ∧ (∀ y0 y1 y2, LeO (brazierref17_num.j1 k y0 y1 y2) (brazierref17_num.j1 (k + 1) y0 y1 y2)) ∧ (∀ y0 y1 y2, LeO (brazierref17_num.j2 k y0 y1 y2) (brazierref17_num.j2 (k + 1) y0 y1 y2))
 | 0 => ⟨fun _ _ _ r h => by simp [brazierref17_num.j0] at h, fun _ _ _ r h => by simp [brazierref17_num.j1] at h, fun _ _ _ r h => by simp [brazierref17_num.j2] at h⟩
 | k + 1 => by
  obtain ⟨ih0, ih1, ih2⟩ := brazierref17_num.mono_l k
  refine ⟨?_, ?_, ?_⟩
  ·intro y0 y1 y2
   unfold brazierref17_num.j0
   repeat' first
   | (with_reducible exact ih0 _ _ _)
   | (with_reducible exact ih1 _ _ _)
   | (with_reducible exact ih2 _ _ _)
   | (with_reducible exact LeO.refl _)
   | (with_reducible exact LeO.none _)
   | (with_reducible refine LeO.ite ?_ ?_)
   | (with_reducible refine LeO.bind ?_ (fun _ => ?_))
   | exact ih0 _ _ _
   | exact ih1 _ _ _
   | exact ih2 _ _ _
   | exact LeO.none _
   | refine LeO.ite ?_ ?_
   | refine LeO.bind ?_ (fun _ => ?_)
  ·intro y0 y1 y2
   unfold brazierref17_num.j1
   repeat' first
   | (with_reducible exact ih0 _ _ _)
   | (with_reducible exact ih1 _ _ _)
   | (with_reducible exact ih2 _ _ _)
   | (with_reducible exact LeO.refl _)
   | (with_reducible exact LeO.none _)
   | (with_reducible refine LeO.ite ?_ ?_)
   | (with_reducible refine LeO.bind ?_ (fun _ => ?_))
   | exact ih0 _ _ _
   | exact ih1 _ _ _
   | exact ih2 _ _ _
   | exact LeO.none _
   | refine LeO.ite ?_ ?_
   | refine LeO.bind ?_ (fun _ => ?_)
  ·intro y0 y1 y2
   unfold brazierref17_num.j2
   repeat' first
   | (with_reducible exact ih0 _ _ _)
   | (with_reducible exact ih1 _ _ _)
   | (with_reducible exact ih2 _ _ _)
   | (with_reducible exact LeO.refl _)
   | (with_reducible exact LeO.none _)
   | (with_reducible refine LeO.ite ?_ ?_)
   | (with_reducible refine LeO.bind ?_ (fun _ => ?_))
   | exact ih0 _ _ _
   | exact ih1 _ _ _
   | exact ih2 _ _ _
   | exact LeO.none _
   | refine LeO.ite ?_ ?_
   | refine LeO.bind ?_ (fun _ => ?_)
theorem brazierref17_num.mono : ∀ a0 a1 k, LeO (brazierref17_num.f k a0 a1) (brazierref17_num.f (k + 1) a0 a1) := by
 intro a0 a1 k
 obtain ⟨ih0, ih1, ih2⟩ := brazierref17_num.mono_l k
 unfold brazierref17_num.f
 repeat' first
   | (with_reducible exact ih0 _ _ _)
   | (with_reducible exact ih1 _ _ _)
   | (with_reducible exact ih2 _ _ _)
   | (with_reducible exact LeO.refl _)
   | (with_reducible exact LeO.none _)
   | (with_reducible refine LeO.ite ?_ ?_)
   | (with_reducible refine LeO.bind ?_ (fun _ => ?_))
   | exact ih0 _ _ _
   | exact ih1 _ _ _
   | exact ih2 _ _ _
   | exact LeO.none _
   | refine LeO.ite ?_ ?_
   | refine LeO.bind ?_ (fun _ => ?_)
set_option maxHeartbeats 8000000 in
set_option maxRecDepth 100000 in
theorem brazierref17_num.calls (k : Nat) (a0 : Int) (a1 : Int) (r : Bool) (w : World) (h : brazierref17_num.f k a0 a1 = some r) :
  Calls Try.prog 24 #[.int .i64 a0, .int .i32 a1] w fun e w' => e = .returned (.bool r) ∧ Drawn0 w w' := by
 have H : (if a0 = 1 then (if a1 ≥ 0 then (some (decide (a1 ≤ 1048575))) else (some false)) else (if a0 ≥ 2 then (if a0 ≤ 7 then (brazierref17_num.j0 k a0 a1 true) else (if a0 = 24 then (brazierref17_num.j0 k a0 a1 true) else (if a0 = 25 then (brazierref17_num.j0 k a0 a1 true) else (brazierref17_num.j0 k a0 a1 (a0 == 29))))) else (if a0 = 24 then (brazierref17_num.j0 k a0 a1 true) else (if a0 = 25 then (brazierref17_num.j0 k a0 a1 true) else (brazierref17_num.j0 k a0 a1 (a0 == 29)))))) = some r := h
 clear h
 by_cases c3 : a0 = 1
 ·rw [if_pos c3] at H
  have c3b0 : (a0 == 1) = true := beq_iff_eq.mpr c3
  have c3b1 : (a0 != 1) = false := bne_eq_false_iff_eq.mpr c3
  clear c3
  by_cases c4 : a1 ≥ 0
  ·rw [if_pos c4] at H
   have c4b0 : decide (0 ≤ a1) = true := decide_eq_true c4
   clear c4
   obtain rfl := Option.some.inj H
   go_enter Try.func24, Try.ntmps24
   go_wp2
   go_ret
   exact ⟨by rfl, by repeat (exact Drawn0.refl _)⟩
  ·rw [if_neg c4] at H
   have c4b0 : decide (0 ≤ a1) = false := decide_eq_false c4
   clear c4
   obtain rfl := Option.some.inj H
   go_enter Try.func24, Try.ntmps24
   go_wp2
   go_ret
   exact ⟨by rfl, by repeat (exact Drawn0.refl _)⟩
 ·rw [if_neg c3] at H
  have c3b0 : (a0 == 1) = false := beq_eq_false_iff_ne.mpr c3
  have c3b1 : (a0 != 1) = true := bne_iff_ne.mpr c3
  have HC5 := Aside0.mk H
  clear H
  go_enter Try.func24, Try.ntmps24
  go_upto_region 3 with (fail)
  go_cut [14] (fun v14 wc => ∃ (kq : Nat) (x14_4 : Bool), v14 = .bool x14_4 ∧ Aside0 (brazierref17_num.j0 kq a0 a1 x14_4 = some r) ∧ Aside0 (kq ≤ k) ∧ Drawn0 w wc)
  case first =>
   have H := HC5.out
   clear HC5
   by_cases c6 : a0 ≥ 2
   ·rw [if_pos c6] at H
    have c6b0 : decide (2 ≤ a0) = true := decide_eq_true c6
    clear c6
    by_cases c7 : a0 ≤ 7
    ·rw [if_pos c7] at H
     have c7b0 : decide (a0 ≤ 7) = true := decide_eq_true c7
     clear c7
     have H' := Aside0.mk H
     clear H
     go_wp2
     go_meet
     case rel => exact ⟨_, (true), (by rfl), H', ⟨by omega⟩, by repeat (exact Drawn0.refl _)⟩
    ·rw [if_neg c7] at H
     have c7b0 : decide (a0 ≤ 7) = false := decide_eq_false c7
     clear c7
     by_cases c8 : a0 = 24
     ·rw [if_pos c8] at H
      have c8b0 : (a0 == 24) = true := beq_iff_eq.mpr c8
      have c8b1 : (a0 != 24) = false := bne_eq_false_iff_eq.mpr c8
      clear c8
      have H' := Aside0.mk H
      clear H
      go_wp2
      go_meet
      case rel => exact ⟨_, (true), (by rfl), H', ⟨by omega⟩, by repeat (exact Drawn0.refl _)⟩
     ·rw [if_neg c8] at H
      have c8b0 : (a0 == 24) = false := beq_eq_false_iff_ne.mpr c8
      have c8b1 : (a0 != 24) = true := bne_iff_ne.mpr c8
      by_cases c9 : a0 = 25
      ·rw [if_pos c9] at H
       have c9b0 : (a0 == 25) = true := beq_iff_eq.mpr c9
       have c9b1 : (a0 != 25) = false := bne_eq_false_iff_eq.mpr c9
       clear c9
       have H' := Aside0.mk H
       clear H
       go_wp2
       go_meet
       case rel => exact ⟨_, (true), (by rfl), H', ⟨by omega⟩, by repeat (exact Drawn0.refl _)⟩
      ·rw [if_neg c9] at H
       have c9b0 : (a0 == 25) = false := beq_eq_false_iff_ne.mpr c9
       have c9b1 : (a0 != 25) = true := bne_iff_ne.mpr c9
       have H' := Aside0.mk H
       clear H
       go_wp2
       go_meet
       case rel => exact ⟨_, ((a0 == 29)), (by rfl), H', ⟨by omega⟩, by repeat (exact Drawn0.refl _)⟩
   ·rw [if_neg c6] at H
    have c6b0 : decide (2 ≤ a0) = false := decide_eq_false c6
    clear c6
    by_cases c10 : a0 = 24
    ·rw [if_pos c10] at H
     have c10b0 : (a0 == 24) = true := beq_iff_eq.mpr c10
     have c10b1 : (a0 != 24) = false := bne_eq_false_iff_eq.mpr c10
     clear c10
     have H' := Aside0.mk H
     clear H
     go_wp2
     go_meet
     case rel => exact ⟨_, (true), (by rfl), H', ⟨by omega⟩, by repeat (exact Drawn0.refl _)⟩
    ·rw [if_neg c10] at H
     have c10b0 : (a0 == 24) = false := beq_eq_false_iff_ne.mpr c10
     have c10b1 : (a0 != 24) = true := bne_iff_ne.mpr c10
     by_cases c11 : a0 = 25
     ·rw [if_pos c11] at H
      have c11b0 : (a0 == 25) = true := beq_iff_eq.mpr c11
      have c11b1 : (a0 != 25) = false := bne_eq_false_iff_eq.mpr c11
      clear c11
      have H' := Aside0.mk H
      clear H
      go_wp2
      go_meet
      case rel => exact ⟨_, (true), (by rfl), H', ⟨by omega⟩, by repeat (exact Drawn0.refl _)⟩
     ·rw [if_neg c11] at H
      have c11b0 : (a0 == 25) = false := beq_eq_false_iff_ne.mpr c11
      have c11b1 : (a0 != 25) = true := bne_iff_ne.mpr c11
      have H' := Aside0.mk H
      clear H
      go_wp2
      go_meet
      case rel => exact ⟨_, ((a0 == 29)), (by rfl), H', ⟨by omega⟩, by repeat (exact Drawn0.refl _)⟩
  case rest =>
   clear HC5 c3 c3b0 c3b1
   obtain ⟨kq, x14_4, rfl, HA, HJ4, ⟨mc4, rfl⟩⟩ := hcut
   cases kq with
   | zero => exact absurd HA.out (by simp [brazierref17_num.j0])
   | succ kj4 =>
    have H := HA.out
    clear HA
    simp only [brazierref17_num.j0] at H
    by_cases c12 : x14_4 = true
    ·subst c12
     have H1 : (if a1 ≥ (-2048) then (some (decide (a1 ≤ 2047))) else (some false)) = some r := by rw [if_pos rfl] at H; exact H
     clear H
     have H := H1
     clear H1
     by_cases c13 : a1 ≥ (-2048)
     ·rw [if_pos c13] at H
      have c13b0 : decide ((-2048) ≤ a1) = true := decide_eq_true c13
      clear c13
      obtain rfl := Option.some.inj H
      go_wp2
      go_ret
      exact ⟨by rfl, by repeat (first | exact Drawn0.refl _ | apply Drawn0.step)⟩
     ·rw [if_neg c13] at H
      have c13b0 : decide ((-2048) ≤ a1) = false := decide_eq_false c13
      clear c13
      obtain rfl := Option.some.inj H
      go_wp2
      go_ret
      exact ⟨by rfl, by repeat (first | exact Drawn0.refl _ | apply Drawn0.step)⟩
    ·replace c12 := Bool.eq_false_iff.mpr c12
     subst c12
     have H1 : (if a0 ≥ 8 then (brazierref17_num.j1 kj4 a0 a1 (decide (a0 ≤ 10))) else (brazierref17_num.j1 kj4 a0 a1 false)) = some r := by rw [if_neg (show ¬ (false = true) by decide)] at H; exact H
     clear H
     have H := H1
     clear H1
     have HC14 := Aside0.mk H
     clear H
     go_upto_region 5 with (fail)
     go_cut [39] (fun v39 wc => ∃ (kq : Nat) (x39_13 : Bool), v39 = .bool x39_13 ∧ Aside0 (brazierref17_num.j1 kq a0 a1 x39_13 = some r) ∧ Aside0 (kq ≤ kj4) ∧ Drawn0 w wc)
     case first =>
      have H := HC14.out
      clear HC14
      by_cases c15 : a0 ≥ 8
      ·rw [if_pos c15] at H
       have c15b0 : decide (8 ≤ a0) = true := decide_eq_true c15
       clear c15
       have H' := Aside0.mk H
       clear H
       go_wp2
       go_meet
       case rel => exact ⟨_, (decide (a0 ≤ 10)), (by rfl), H', ⟨by have := HJ4.out; omega⟩, by repeat (first | exact Drawn0.refl _ | apply Drawn0.step)⟩
      ·rw [if_neg c15] at H
       have c15b0 : decide (8 ≤ a0) = false := decide_eq_false c15
       clear c15
       have H' := Aside0.mk H
       clear H
       go_wp2
       go_meet
       case rel => exact ⟨_, (false), (by rfl), H', ⟨by have := HJ4.out; omega⟩, by repeat (first | exact Drawn0.refl _ | apply Drawn0.step)⟩
     case rest =>
      clear HC14
      obtain ⟨kq, x39_13, rfl, HA, HJ13, ⟨mc13, rfl⟩⟩ := hcut
      cases kq with
      | zero => exact absurd HA.out (by simp [brazierref17_num.j1])
      | succ kj13 =>
       have H := HA.out
       clear HA
       simp only [brazierref17_num.j1] at H
       by_cases c16 : x39_13 = true
       ·subst c16
        have H1 : (if a1 ≥ 0 then (some (decide (a1 ≤ 31))) else (some false)) = some r := by rw [if_pos rfl] at H; exact H
        clear H
        have H := H1
        clear H1
        by_cases c17 : a1 ≥ 0
        ·rw [if_pos c17] at H
         have c17b0 : decide (0 ≤ a1) = true := decide_eq_true c17
         clear c17
         obtain rfl := Option.some.inj H
         go_wp2
         go_ret
         exact ⟨by rfl, by repeat (first | exact Drawn0.refl _ | apply Drawn0.step)⟩
        ·rw [if_neg c17] at H
         have c17b0 : decide (0 ≤ a1) = false := decide_eq_false c17
         clear c17
         obtain rfl := Option.some.inj H
         go_wp2
         go_ret
         exact ⟨by rfl, by repeat (first | exact Drawn0.refl _ | apply Drawn0.step)⟩
       ·replace c16 := Bool.eq_false_iff.mpr c16
        subst c16
        have H1 : (if a0 = 26 then (brazierref17_num.j2 kj13 a0 a1 true) else (brazierref17_num.j2 kj13 a0 a1 (a0 == 27))) = some r := by rw [if_neg (show ¬ (false = true) by decide)] at H; exact H
        clear H
        have H := H1
        clear H1
        have HC18 := Aside0.mk H
        clear H
        go_upto_region 7 with (fail)
        go_cut [52] (fun v52 wc => ∃ (kq : Nat) (x52_17 : Bool), v52 = .bool x52_17 ∧ Aside0 (brazierref17_num.j2 kq a0 a1 x52_17 = some r) ∧ Aside0 (kq ≤ kj13) ∧ Drawn0 w wc)
        case first =>
         have H := HC18.out
         clear HC18
         by_cases c19 : a0 = 26
         ·rw [if_pos c19] at H
          have c19b0 : (a0 == 26) = true := beq_iff_eq.mpr c19
          have c19b1 : (a0 != 26) = false := bne_eq_false_iff_eq.mpr c19
          clear c19
          have H' := Aside0.mk H
          clear H
          go_wp2
          go_meet
          case rel => exact ⟨_, (true), (by rfl), H', ⟨by have := HJ4.out; have := HJ13.out; omega⟩, by repeat (first | exact Drawn0.refl _ | apply Drawn0.step)⟩
         ·rw [if_neg c19] at H
          have c19b0 : (a0 == 26) = false := beq_eq_false_iff_ne.mpr c19
          have c19b1 : (a0 != 26) = true := bne_iff_ne.mpr c19
          have H' := Aside0.mk H
          clear H
          go_wp2
          go_meet
          case rel => exact ⟨_, ((a0 == 27)), (by rfl), H', ⟨by have := HJ4.out; have := HJ13.out; omega⟩, by repeat (first | exact Drawn0.refl _ | apply Drawn0.step)⟩
        case rest =>
         clear HC18
         obtain ⟨kq, x52_17, rfl, HA, HJ17, ⟨mc17, rfl⟩⟩ := hcut
         cases kq with
         | zero => exact absurd HA.out (by simp [brazierref17_num.j2])
         | succ kj17 =>
          have H := HA.out
          clear HA
          simp only [brazierref17_num.j2] at H
          by_cases c20 : x52_17 = true
          ·subst c20
           have H1 : (if a1 ≥ (-4096) then (if a1 ≤ 4094 then (some ((Int.tmod a1 2) == 0)) else (some false)) else (some false)) = some r := by rw [if_pos rfl] at H; exact H
           clear H
           have H := H1
           clear H1
           by_cases c21 : a1 ≥ (-4096)
           ·rw [if_pos c21] at H
            have c21b0 : decide ((-4096) ≤ a1) = true := decide_eq_true c21
            clear c21
            by_cases c22 : a1 ≤ 4094
            ·rw [if_pos c22] at H
             have c22b0 : decide (a1 ≤ 4094) = true := decide_eq_true c22
             clear c22
             obtain rfl := Option.some.inj H
             go_wp2
             go_ret
             exact ⟨by rfl, by repeat (first | exact Drawn0.refl _ | apply Drawn0.step)⟩
            ·rw [if_neg c22] at H
             have c22b0 : decide (a1 ≤ 4094) = false := decide_eq_false c22
             clear c22
             obtain rfl := Option.some.inj H
             go_wp2
             go_ret
             exact ⟨by rfl, by repeat (first | exact Drawn0.refl _ | apply Drawn0.step)⟩
           ·rw [if_neg c21] at H
            have c21b0 : decide ((-4096) ≤ a1) = false := decide_eq_false c21
            clear c21
            obtain rfl := Option.some.inj H
            go_wp2
            go_ret
            exact ⟨by rfl, by repeat (first | exact Drawn0.refl _ | apply Drawn0.step)⟩
          ·replace c20 := Bool.eq_false_iff.mpr c20
           subst c20
           have H1 : (if a0 = 28 then (if a1 ≥ (-1048576) then (if a1 ≤ 1048574 then (some ((Int.tmod a1 2) == 0)) else (some false)) else (some false)) else (some (a1 == 0))) = some r := by rw [if_neg (show ¬ (false = true) by decide)] at H; exact H
           clear H
           have H := H1
           clear H1
           by_cases c23 : a0 = 28
           ·rw [if_pos c23] at H
            have c23b0 : (a0 == 28) = true := beq_iff_eq.mpr c23
            have c23b1 : (a0 != 28) = false := bne_eq_false_iff_eq.mpr c23
            clear c23
            by_cases c24 : a1 ≥ (-1048576)
            ·rw [if_pos c24] at H
             have c24b0 : decide ((-1048576) ≤ a1) = true := decide_eq_true c24
             clear c24
             by_cases c25 : a1 ≤ 1048574
             ·rw [if_pos c25] at H
              have c25b0 : decide (a1 ≤ 1048574) = true := decide_eq_true c25
              clear c25
              obtain rfl := Option.some.inj H
              go_wp2
              go_ret
              exact ⟨by rfl, by repeat (first | exact Drawn0.refl _ | apply Drawn0.step)⟩
             ·rw [if_neg c25] at H
              have c25b0 : decide (a1 ≤ 1048574) = false := decide_eq_false c25
              clear c25
              obtain rfl := Option.some.inj H
              go_wp2
              go_ret
              exact ⟨by rfl, by repeat (first | exact Drawn0.refl _ | apply Drawn0.step)⟩
            ·rw [if_neg c24] at H
             have c24b0 : decide ((-1048576) ≤ a1) = false := decide_eq_false c24
             clear c24
             obtain rfl := Option.some.inj H
             go_wp2
             go_ret
             exact ⟨by rfl, by repeat (first | exact Drawn0.refl _ | apply Drawn0.step)⟩
           ·rw [if_neg c23] at H
            have c23b0 : (a0 == 28) = false := beq_eq_false_iff_ne.mpr c23
            have c23b1 : (a0 != 28) = true := bne_iff_ne.mpr c23
            obtain rfl := Option.some.inj H
            go_wp2
            go_ret
            exact ⟨by rfl, by repeat (first | exact Drawn0.refl _ | apply Drawn0.step)⟩

/-! ### brazierref17_reg: function 25 -/
def brazierref17_reg.f (a0 : Bool) (a1 : Int) : Option (Bool) := if a1 = 0 then (some true) else (if a0 = true then (if a1 ≥ 1 then (some (decide (a1 ≤ 31))) else (some false)) else (some false))
set_option maxHeartbeats 8000000 in
set_option maxRecDepth 100000 in
theorem brazierref17_reg.calls (a0 : Bool) (a1 : Int) (r : Bool) (w : World) (h : brazierref17_reg.f a0 a1 = some r) :
  Calls Try.prog 25 #[.bool a0, .int .i64 a1] w fun e w' => e = .returned (.bool r) ∧ Drawn0 w w' := by
 have H : (if a1 = 0 then (some true) else (if a0 = true then (if a1 ≥ 1 then (some (decide (a1 ≤ 31))) else (some false)) else (some false))) = some r := h
 clear h
 by_cases c3 : a1 = 0
 ·rw [if_pos c3] at H
  have c3b0 : (a1 == 0) = true := beq_iff_eq.mpr c3
  have c3b1 : (a1 != 0) = false := bne_eq_false_iff_eq.mpr c3
  clear c3
  obtain rfl := Option.some.inj H
  go_enter Try.func25, Try.ntmps25
  go_wp2
  go_ret
  exact ⟨by rfl, by repeat (exact Drawn0.refl _)⟩
 ·rw [if_neg c3] at H
  have c3b0 : (a1 == 0) = false := beq_eq_false_iff_ne.mpr c3
  have c3b1 : (a1 != 0) = true := bne_iff_ne.mpr c3
  by_cases c4 : a0 = true
  ·subst c4
   have H1 : (if a1 ≥ 1 then (some (decide (a1 ≤ 31))) else (some false)) = some r := by rw [if_pos rfl] at H; exact H
   clear H
   have H := H1
   clear H1
   by_cases c5 : a1 ≥ 1
   ·rw [if_pos c5] at H
    have c5b0 : decide (1 ≤ a1) = true := decide_eq_true c5
    clear c5
    obtain rfl := Option.some.inj H
    go_enter Try.func25, Try.ntmps25
    go_wp2
    go_ret
    exact ⟨by rfl, by repeat (exact Drawn0.refl _)⟩
   ·rw [if_neg c5] at H
    have c5b0 : decide (1 ≤ a1) = false := decide_eq_false c5
    clear c5
    obtain rfl := Option.some.inj H
    go_enter Try.func25, Try.ntmps25
    go_wp2
    go_ret
    exact ⟨by rfl, by repeat (exact Drawn0.refl _)⟩
  ·replace c4 := Bool.eq_false_iff.mpr c4
   subst c4
   have H1 : (some false) = some r := by rw [if_neg (show ¬ (false = true) by decide)] at H; exact H
   clear H
   have H := H1
   clear H1
   obtain rfl := Option.some.inj H
   go_enter Try.func25, Try.ntmps25
   go_wp2
   go_ret
   exact ⟨by rfl, by repeat (exact Drawn0.refl _)⟩

/-! ### brazierref17_has: function 26 -/
def brazierref17_has.l0 : Nat → ByteArray → Int → Int → Option (Bool)
 | 0, _, _, _ => none
 | k + 1, x0, x1, x5 => if x5 < (x0.size : Int) then (if 0 ≤ x5 then (if (bt x0 x5) = x1 then (some true) else (brazierref17_has.l0 k x0 x1 (wrap64 (x5 + 1)))) else (none)) else (some false)
def brazierref17_has.f (k : Nat) (a0 : ByteArray) (a1 : Int) : Option (Bool) := brazierref17_has.l0 k a0 a1 0
theorem brazierref17_has.mono_l : ∀ k, (∀ y0 y1 y2, LeO (brazierref17_has.l0 k y0 y1 y2) (brazierref17_has.l0 (k + 1) y0 y1 y2))
 | 0 => fun _ _ _ r h => by simp [brazierref17_has.l0] at h
 | k + 1 => by
  have ih0 := brazierref17_has.mono_l k
  ·intro y0 y1 y2
   unfold brazierref17_has.l0
   repeat' first
   | (with_reducible exact ih0 _ _ _)
   | (with_reducible exact LeO.refl _)
   | (with_reducible exact LeO.none _)
   | (with_reducible refine LeO.ite ?_ ?_)
   | (with_reducible refine LeO.bind ?_ (fun _ => ?_))
   | exact ih0 _ _ _
   | exact LeO.none _
   | refine LeO.ite ?_ ?_
   | refine LeO.bind ?_ (fun _ => ?_)
theorem brazierref17_has.mono : ∀ a0 a1 k, LeO (brazierref17_has.f k a0 a1) (brazierref17_has.f (k + 1) a0 a1) := by
 intro a0 a1 k
 have ih0 := brazierref17_has.mono_l k
 unfold brazierref17_has.f
 repeat' first
   | (with_reducible exact ih0 _ _ _)
   | (with_reducible exact LeO.refl _)
   | (with_reducible exact LeO.none _)
   | (with_reducible refine LeO.ite ?_ ?_)
   | (with_reducible refine LeO.bind ?_ (fun _ => ?_))
   | exact ih0 _ _ _
   | exact LeO.none _
   | refine LeO.ite ?_ ?_
   | refine LeO.bind ?_ (fun _ => ?_)
set_option maxHeartbeats 8000000 in
set_option maxRecDepth 100000 in
theorem brazierref17_has.calls (k : Nat) (a0 : ByteArray) (a1 : Int) (r : Bool) (w : World) (h : brazierref17_has.f k a0 a1 = some r) :
  Calls Try.prog 26 #[.string a0, .int .u8 a1] w fun e w' => e = .returned (.bool r) ∧ Drawn0 w w' := by
 have H : (brazierref17_has.l0 k a0 a1 0) = some r := h
 clear h
 have H' := Aside0.mk H
 clear H
 go_enter Try.func26, Try.ntmps26
 go_wp2
 go_loopg [5] k (fun kq v5 w' => ∃ (x5_1 : Int), v5 = .int .i64 x5_1 ∧ Aside0 (brazierref17_has.l0 kq a0 a1 x5_1 = some r) ∧ Aside0 (kq ≤ k) ∧ Drawn0 w w')
 case atStart => exact ⟨(0), (by rfl), H', ⟨Nat.le_refl _⟩, by repeat (exact Drawn0.refl _)⟩
 case round =>
  clear H'
  obtain ⟨x5_1, rfl, HA, HK1, ⟨m1, rfl⟩⟩ := hrel
  cases gk with
  | zero => exact absurd HA.out (by simp [brazierref17_has.l0])
  | succ k1 =>
   have H := HA.out
   clear HA
   simp only [brazierref17_has.l0] at H
   by_cases c3 : x5_1 < (a0.size : Int)
   ·rw [if_pos c3] at H
    have c3b0 : decide (x5_1 < (a0.size : Int)) = true := decide_eq_true c3
    clear c3
    by_cases c4 : 0 ≤ x5_1
    ·rw [if_pos c4] at H
     have c4b0 : decide (0 ≤ x5_1) = true := decide_eq_true c4
     clear c4
     by_cases c6 : (bt a0 x5_1) = a1
     ·rw [if_pos c6] at H
      have c6b0 : ((bt a0 x5_1) == a1) = true := beq_iff_eq.mpr c6
      have c6b1 : ((bt a0 x5_1) != a1) = false := bne_eq_false_iff_eq.mpr c6
      clear c6
      obtain rfl := Option.some.inj H
      have p5 : 0 ≤ (x5_1 : Int) := of_decide_eq_true (by (with_reducible assumption))
      have q5 : x5_1 < (a0.size : Int) := of_decide_eq_true (by (with_reducible assumption))
      have hx5 := bt_at a0 x5_1
      replace p5 := eq_true p5
      replace q5 := eq_true q5
      go_wp2
      go_ret
      exact ⟨by rfl, by repeat (first | exact Drawn0.refl _ | apply Drawn0.step)⟩
     ·rw [if_neg c6] at H
      have c6b0 : ((bt a0 x5_1) == a1) = false := beq_eq_false_iff_ne.mpr c6
      have c6b1 : ((bt a0 x5_1) != a1) = true := bne_iff_ne.mpr c6
      have H' := Aside0.mk H
      clear H
      have p5 : 0 ≤ (x5_1 : Int) := of_decide_eq_true (by (with_reducible assumption))
      have q5 : x5_1 < (a0.size : Int) := of_decide_eq_true (by (with_reducible assumption))
      have hx5 := bt_at a0 x5_1
      replace p5 := eq_true p5
      replace q5 := eq_true q5
      go_wp2
      go_roundg k1
      case measure => have := HK1.out; omega
      case rel => exact ⟨(wrap64 (x5_1 + 1)), (by rfl), H', ⟨by have := HK1.out; omega⟩, by repeat (first | exact Drawn0.refl _ | apply Drawn0.step)⟩
    ·rw [if_neg c4] at H
     exact absurd H (by simp)
   ·rw [if_neg c3] at H
    have c3b0 : decide (x5_1 < (a0.size : Int)) = false := decide_eq_false c3
    clear c3
    obtain rfl := Option.some.inj H
    go_wp2
    go_ret
    exact ⟨by rfl, by repeat (first | exact Drawn0.refl _ | apply Drawn0.step)⟩

end Go.Proofs.Ytpoofggcodiaiaa.X
