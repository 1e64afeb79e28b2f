/- The walks: for each Go function a Lean function with the same answers, and the proof that the Go code comes to them; no condition beyond what each contract states. Written by this session's own program xprint.py (over the kit's print program); not one of print.sh's texts. -/
import Derived.Test.YtpoofggcodiaiaaX0
namespace Go.Proofs.Ytpoofggcodiaiaa.X
open Go.RowKit Go.Proofs.YtpoofggcodiaiaaW.PrintWords Go.Proofs.YtpoofggcodiaiaaW.PrintLast Go.Proofs.YtpoofggcodiaiaaW.PrintMore
attribute [local go_sem] max2_int min2_int max_two min_two max_three min_three max_four min_four   -- for this text's walks alone
set_option linter.unusedVariables false
set_option linter.unusedSimpArgs false

/-! ### asm_IsSym: function 27 -/
def asm_IsSym.l0 : Nat → ByteArray → Int → Int → Option (Bool)
 | 0, _, _, _ => none
 | k + 1, x0, x7, x8 => if x8 < x7 then (if 0 ≤ x8 then (if x8 < (x0.size : Int) then (if (bt x0 x8) ≥ 97 then (if (bt x0 x8) ≤ 122 then (asm_IsSym.l0 k x0 x7 (wrap64 (x8 + 1))) else (if (bt x0 x8) ≥ 65 then (if (bt x0 x8) ≤ 90 then (asm_IsSym.l0 k x0 x7 (wrap64 (x8 + 1))) else (if (bt x0 x8) = 95 then (asm_IsSym.l0 k x0 x7 (wrap64 (x8 + 1))) else (if ((bt x0 x8) = 46) then (asm_IsSym.l0 k x0 x7 (wrap64 (x8 + 1))) else (if x8 = 0 then (some false) else (if (bt x0 x8) < 48 then (some false) else (if (bt x0 x8) > 57 then (some false) else (asm_IsSym.l0 k x0 x7 (wrap64 (x8 + 1))))))))) else (if (bt x0 x8) = 95 then (asm_IsSym.l0 k x0 x7 (wrap64 (x8 + 1))) else (if ((bt x0 x8) = 46) then (asm_IsSym.l0 k x0 x7 (wrap64 (x8 + 1))) else (if x8 = 0 then (some false) else (if (bt x0 x8) < 48 then (some false) else (if (bt x0 x8) > 57 then (some false) else (asm_IsSym.l0 k x0 x7 (wrap64 (x8 + 1)))))))))) else (if (bt x0 x8) ≥ 65 then (if (bt x0 x8) ≤ 90 then (asm_IsSym.l0 k x0 x7 (wrap64 (x8 + 1))) else (if (bt x0 x8) = 95 then (asm_IsSym.l0 k x0 x7 (wrap64 (x8 + 1))) else (if ((bt x0 x8) = 46) then (asm_IsSym.l0 k x0 x7 (wrap64 (x8 + 1))) else (if x8 = 0 then (some false) else (if (bt x0 x8) < 48 then (some false) else (if (bt x0 x8) > 57 then (some false) else (asm_IsSym.l0 k x0 x7 (wrap64 (x8 + 1))))))))) else (if (bt x0 x8) = 95 then (asm_IsSym.l0 k x0 x7 (wrap64 (x8 + 1))) else (if ((bt x0 x8) = 46) then (asm_IsSym.l0 k x0 x7 (wrap64 (x8 + 1))) else (if x8 = 0 then (some false) else (if (bt x0 x8) < 48 then (some false) else (if (bt x0 x8) > 57 then (some false) else (asm_IsSym.l0 k x0 x7 (wrap64 (x8 + 1)))))))))) else (none)) else (none)) else (if (x0.size : Int) ≥ 1 then (some (decide ((x0.size : Int) ≤ 100))) else (some false))
def asm_IsSym.f (k : Nat) (a0 : ByteArray) : Option (Bool) := asm_IsSym.l0 k a0 (a0.size : Int) 0
theorem asm_IsSym.mono_l : ∀ k, (∀ y0 y1 y2, LeO (asm_IsSym.l0 k y0 y1 y2) (asm_IsSym.l0 (k + 1) y0 y1 y2))
 | 0 => fun _ _ _ r h => by simp [asm_IsSym.l0] at h
 | k + 1 => by
  have ih0 := asm_IsSym.mono_l k
  ·intro y0 y1 y2
   unfold asm_IsSym.l0
   repeat' first
   | (with_reducible exact ih0 _ _ _)
   | (with_reducible exact LeO.refl _)
   | (with_reducible exact LeO.none _)
   | (with_reducible refine LeO.ite ?_ ?_)
   | (with_reducible refine LeO.bind ?_ (fun _ => ?_))
   | exact ih0 _ _ _
   | exact LeO.none _
   | refine LeO.ite ?_ ?_
   | refine LeO.bind ?_ (fun _ => ?_)
theorem asm_IsSym.mono : ∀ a0 k, LeO (asm_IsSym.f k a0) (asm_IsSym.f (k + 1) a0) := by
 intro a0 k
 have ih0 := asm_IsSym.mono_l k
 unfold asm_IsSym.f
 repeat' first
   | (with_reducible exact ih0 _ _ _)
   | (with_reducible exact LeO.refl _)
   | (with_reducible exact LeO.none _)
   | (with_reducible refine LeO.ite ?_ ?_)
   | (with_reducible refine LeO.bind ?_ (fun _ => ?_))
   | exact ih0 _ _ _
   | exact LeO.none _
   | refine LeO.ite ?_ ?_
   | refine LeO.bind ?_ (fun _ => ?_)
set_option maxHeartbeats 8000000 in
set_option maxRecDepth 100000 in
theorem asm_IsSym.calls (k : Nat) (a0 : ByteArray) (r : Bool) (w : World) (h : asm_IsSym.f k a0 = some r) :
  Calls Try.prog 27 #[.string a0] w fun e w' => e = .returned (.bool r) ∧ Drawn0 w w' := by
 have H : (asm_IsSym.l0 k a0 (a0.size : Int) 0) = some r := h
 clear h
 have H' := Aside0.mk H
 clear H
 go_enter Try.func27, Try.ntmps27
 go_wp2
 go_loopg [8] k (fun kq v8 w' => ∃ (x8_1 : Int), v8 = .int .i64 x8_1 ∧ Aside0 (asm_IsSym.l0 kq a0 (a0.size : Int) x8_1 = some r) ∧ Aside0 (kq ≤ k) ∧ Drawn0 w w')
 case atStart => exact ⟨(0), (by rfl), H', ⟨Nat.le_refl _⟩, by repeat (exact Drawn0.refl _)⟩
 case round =>
  clear H'
  obtain ⟨x8_1, rfl, HA, HK1, ⟨m1, rfl⟩⟩ := hrel
  cases gk with
  | zero => exact absurd HA.out (by simp [asm_IsSym.l0])
  | succ k1 =>
   have H := HA.out
   clear HA
   simp only [asm_IsSym.l0] at H
   by_cases c2 : x8_1 < (a0.size : Int)
   ·rw [if_pos c2] at H
    have c2b0 : decide (x8_1 < (a0.size : Int)) = true := decide_eq_true c2
    clear c2
    by_cases c3 : 0 ≤ x8_1
    ·rw [if_pos c3] at H
     have c3b0 : decide (0 ≤ x8_1) = true := decide_eq_true c3
     clear c3
     by_cases c4 : x8_1 < (a0.size : Int)
     ·rw [if_pos c4] at H
      have c4b0 : decide (x8_1 < (a0.size : Int)) = true := decide_eq_true c4
      clear c4
      by_cases c6 : (bt a0 x8_1) ≥ 97
      ·rw [if_pos c6] at H
       have c6b0 : decide (97 ≤ (bt a0 x8_1)) = true := decide_eq_true c6
       clear c6
       by_cases c7 : (bt a0 x8_1) ≤ 122
       ·rw [if_pos c7] at H
        have c7b0 : decide ((bt a0 x8_1) ≤ 122) = true := decide_eq_true c7
        clear c7
        have H' := Aside0.mk H
        clear H
        have p5 : 0 ≤ (x8_1 : Int) := of_decide_eq_true (by (with_reducible assumption))
        have q5 : x8_1 < (a0.size : Int) := of_decide_eq_true (by (with_reducible assumption))
        have hx5 := bt_at a0 x8_1
        replace p5 := eq_true p5
        replace q5 := eq_true q5
        go_wp2
        go_roundg k1
        case measure => have := HK1.out; omega
        case rel => exact ⟨(wrap64 (x8_1 + 1)), (by rfl), H', ⟨by have := HK1.out; omega⟩, by repeat (first | exact Drawn0.refl _ | apply Drawn0.step)⟩
       ·rw [if_neg c7] at H
        have c7b0 : decide ((bt a0 x8_1) ≤ 122) = false := decide_eq_false c7
        clear c7
        by_cases c8 : (bt a0 x8_1) ≥ 65
        ·rw [if_pos c8] at H
         have c8b0 : decide (65 ≤ (bt a0 x8_1)) = true := decide_eq_true c8
         clear c8
         by_cases c9 : (bt a0 x8_1) ≤ 90
         ·rw [if_pos c9] at H
          have c9b0 : decide ((bt a0 x8_1) ≤ 90) = true := decide_eq_true c9
          clear c9
          have H' := Aside0.mk H
          clear H
          have p5 : 0 ≤ (x8_1 : Int) := of_decide_eq_true (by (with_reducible assumption))
          have q5 : x8_1 < (a0.size : Int) := of_decide_eq_true (by (with_reducible assumption))
          have hx5 := bt_at a0 x8_1
          replace p5 := eq_true p5
          replace q5 := eq_true q5
          go_wp2
          go_roundg k1
          case measure => have := HK1.out; omega
          case rel => exact ⟨(wrap64 (x8_1 + 1)), (by rfl), H', ⟨by have := HK1.out; omega⟩, by repeat (first | exact Drawn0.refl _ | apply Drawn0.step)⟩
         ·rw [if_neg c9] at H
          have c9b0 : decide ((bt a0 x8_1) ≤ 90) = false := decide_eq_false c9
          clear c9
          by_cases c10 : (bt a0 x8_1) = 95
          ·rw [if_pos c10] at H
           have c10b0 : ((bt a0 x8_1) == 95) = true := beq_iff_eq.mpr c10
           have c10b1 : ((bt a0 x8_1) != 95) = false := bne_eq_false_iff_eq.mpr c10
           clear c10
           have H' := Aside0.mk H
           clear H
           have p5 : 0 ≤ (x8_1 : Int) := of_decide_eq_true (by (with_reducible assumption))
           have q5 : x8_1 < (a0.size : Int) := of_decide_eq_true (by (with_reducible assumption))
           have hx5 := bt_at a0 x8_1
           replace p5 := eq_true p5
           replace q5 := eq_true q5
           go_wp2
           go_roundg k1
           case measure => have := HK1.out; omega
           case rel => exact ⟨(wrap64 (x8_1 + 1)), (by rfl), H', ⟨by have := HK1.out; omega⟩, by repeat (first | exact Drawn0.refl _ | apply Drawn0.step)⟩
          ·rw [if_neg c10] at H
           have c10b0 : ((bt a0 x8_1) == 95) = false := beq_eq_false_iff_ne.mpr c10
           have c10b1 : ((bt a0 x8_1) != 95) = true := bne_iff_ne.mpr c10
           by_cases c11 : ((bt a0 x8_1) = 46)
           ·rw [if_pos c11] at H
            have c11b0 : ((bt a0 x8_1) == 46) = true := beq_iff_eq.mpr c11
            have c11b1 : ((bt a0 x8_1) != 46) = false := bne_eq_false_iff_eq.mpr c11
            clear c11
            have H' := Aside0.mk H
            clear H
            have p5 : 0 ≤ (x8_1 : Int) := of_decide_eq_true (by (with_reducible assumption))
            have q5 : x8_1 < (a0.size : Int) := of_decide_eq_true (by (with_reducible assumption))
            have hx5 := bt_at a0 x8_1
            replace p5 := eq_true p5
            replace q5 := eq_true q5
            go_wp2
            go_roundg k1
            case measure => have := HK1.out; omega
            case rel => exact ⟨(wrap64 (x8_1 + 1)), (by rfl), H', ⟨by have := HK1.out; omega⟩, by repeat (first | exact Drawn0.refl _ | apply Drawn0.step)⟩
           ·rw [if_neg c11] at H
            have c11b0 : ((bt a0 x8_1) == 46) = false := beq_eq_false_iff_ne.mpr c11
            have c11b1 : ((bt a0 x8_1) != 46) = true := bne_iff_ne.mpr c11
            by_cases c12 : x8_1 = 0
            ·rw [if_pos c12] at H
             have c12b0 : (x8_1 == 0) = true := beq_iff_eq.mpr c12
             have c12b1 : (x8_1 != 0) = false := bne_eq_false_iff_eq.mpr c12
             clear c12
             obtain rfl := Option.some.inj H
             have p5 : 0 ≤ (x8_1 : Int) := of_decide_eq_true (by (with_reducible assumption))
             have q5 : x8_1 < (a0.size : Int) := of_decide_eq_true (by (with_reducible assumption))
             have hx5 := bt_at a0 x8_1
             replace p5 := eq_true p5
             replace q5 := eq_true q5
             go_wp2
             go_ret
             exact ⟨by rfl, by repeat (first | exact Drawn0.refl _ | apply Drawn0.step)⟩
            ·rw [if_neg c12] at H
             have c12b0 : (x8_1 == 0) = false := beq_eq_false_iff_ne.mpr c12
             have c12b1 : (x8_1 != 0) = true := bne_iff_ne.mpr c12
             by_cases c13 : (bt a0 x8_1) < 48
             ·rw [if_pos c13] at H
              have c13b0 : decide ((bt a0 x8_1) < 48) = true := decide_eq_true c13
              clear c13
              obtain rfl := Option.some.inj H
              have p5 : 0 ≤ (x8_1 : Int) := of_decide_eq_true (by (with_reducible assumption))
              have q5 : x8_1 < (a0.size : Int) := of_decide_eq_true (by (with_reducible assumption))
              have hx5 := bt_at a0 x8_1
              replace p5 := eq_true p5
              replace q5 := eq_true q5
              go_wp2
              go_ret
              exact ⟨by rfl, by repeat (first | exact Drawn0.refl _ | apply Drawn0.step)⟩
             ·rw [if_neg c13] at H
              have c13b0 : decide ((bt a0 x8_1) < 48) = false := decide_eq_false c13
              clear c13
              by_cases c14 : (bt a0 x8_1) > 57
              ·rw [if_pos c14] at H
               have c14b0 : decide (57 < (bt a0 x8_1)) = true := decide_eq_true c14
               clear c14
               obtain rfl := Option.some.inj H
               have p5 : 0 ≤ (x8_1 : Int) := of_decide_eq_true (by (with_reducible assumption))
               have q5 : x8_1 < (a0.size : Int) := of_decide_eq_true (by (with_reducible assumption))
               have hx5 := bt_at a0 x8_1
               replace p5 := eq_true p5
               replace q5 := eq_true q5
               go_wp2
               go_ret
               exact ⟨by rfl, by repeat (first | exact Drawn0.refl _ | apply Drawn0.step)⟩
              ·rw [if_neg c14] at H
               have c14b0 : decide (57 < (bt a0 x8_1)) = false := decide_eq_false c14
               clear c14
               have H' := Aside0.mk H
               clear H
               have p5 : 0 ≤ (x8_1 : Int) := of_decide_eq_true (by (with_reducible assumption))
               have q5 : x8_1 < (a0.size : Int) := of_decide_eq_true (by (with_reducible assumption))
               have hx5 := bt_at a0 x8_1
               replace p5 := eq_true p5
               replace q5 := eq_true q5
               go_wp2
               go_roundg k1
               case measure => have := HK1.out; omega
               case rel => exact ⟨(wrap64 (x8_1 + 1)), (by rfl), H', ⟨by have := HK1.out; omega⟩, by repeat (first | exact Drawn0.refl _ | apply Drawn0.step)⟩
        ·rw [if_neg c8] at H
         have c8b0 : decide (65 ≤ (bt a0 x8_1)) = false := decide_eq_false c8
         clear c8
         by_cases c15 : (bt a0 x8_1) = 95
         ·rw [if_pos c15] at H
          have c15b0 : ((bt a0 x8_1) == 95) = true := beq_iff_eq.mpr c15
          have c15b1 : ((bt a0 x8_1) != 95) = false := bne_eq_false_iff_eq.mpr c15
          clear c15
          have H' := Aside0.mk H
          clear H
          have p5 : 0 ≤ (x8_1 : Int) := of_decide_eq_true (by (with_reducible assumption))
          have q5 : x8_1 < (a0.size : Int) := of_decide_eq_true (by (with_reducible assumption))
          have hx5 := bt_at a0 x8_1
          replace p5 := eq_true p5
          replace q5 := eq_true q5
          go_wp2
          go_roundg k1
          case measure => have := HK1.out; omega
          case rel => exact ⟨(wrap64 (x8_1 + 1)), (by rfl), H', ⟨by have := HK1.out; omega⟩, by repeat (first | exact Drawn0.refl _ | apply Drawn0.step)⟩
         ·rw [if_neg c15] at H
          have c15b0 : ((bt a0 x8_1) == 95) = false := beq_eq_false_iff_ne.mpr c15
          have c15b1 : ((bt a0 x8_1) != 95) = true := bne_iff_ne.mpr c15
          by_cases c16 : ((bt a0 x8_1) = 46)
          ·rw [if_pos c16] at H
           have c16b0 : ((bt a0 x8_1) == 46) = true := beq_iff_eq.mpr c16
           have c16b1 : ((bt a0 x8_1) != 46) = false := bne_eq_false_iff_eq.mpr c16
           clear c16
           have H' := Aside0.mk H
           clear H
           have p5 : 0 ≤ (x8_1 : Int) := of_decide_eq_true (by (with_reducible assumption))
           have q5 : x8_1 < (a0.size : Int) := of_decide_eq_true (by (with_reducible assumption))
           have hx5 := bt_at a0 x8_1
           replace p5 := eq_true p5
           replace q5 := eq_true q5
           go_wp2
           go_roundg k1
           case measure => have := HK1.out; omega
           case rel => exact ⟨(wrap64 (x8_1 + 1)), (by rfl), H', ⟨by have := HK1.out; omega⟩, by repeat (first | exact Drawn0.refl _ | apply Drawn0.step)⟩
          ·rw [if_neg c16] at H
           have c16b0 : ((bt a0 x8_1) == 46) = false := beq_eq_false_iff_ne.mpr c16
           have c16b1 : ((bt a0 x8_1) != 46) = true := bne_iff_ne.mpr c16
           by_cases c17 : x8_1 = 0
           ·rw [if_pos c17] at H
            have c17b0 : (x8_1 == 0) = true := beq_iff_eq.mpr c17
            have c17b1 : (x8_1 != 0) = false := bne_eq_false_iff_eq.mpr c17
            clear c17
            obtain rfl := Option.some.inj H
            have p5 : 0 ≤ (x8_1 : Int) := of_decide_eq_true (by (with_reducible assumption))
            have q5 : x8_1 < (a0.size : Int) := of_decide_eq_true (by (with_reducible assumption))
            have hx5 := bt_at a0 x8_1
            replace p5 := eq_true p5
            replace q5 := eq_true q5
            go_wp2
            go_ret
            exact ⟨by rfl, by repeat (first | exact Drawn0.refl _ | apply Drawn0.step)⟩
           ·rw [if_neg c17] at H
            have c17b0 : (x8_1 == 0) = false := beq_eq_false_iff_ne.mpr c17
            have c17b1 : (x8_1 != 0) = true := bne_iff_ne.mpr c17
            by_cases c18 : (bt a0 x8_1) < 48
            ·rw [if_pos c18] at H
             have c18b0 : decide ((bt a0 x8_1) < 48) = true := decide_eq_true c18
             clear c18
             obtain rfl := Option.some.inj H
             have p5 : 0 ≤ (x8_1 : Int) := of_decide_eq_true (by (with_reducible assumption))
             have q5 : x8_1 < (a0.size : Int) := of_decide_eq_true (by (with_reducible assumption))
             have hx5 := bt_at a0 x8_1
             replace p5 := eq_true p5
             replace q5 := eq_true q5
             go_wp2
             go_ret
             exact ⟨by rfl, by repeat (first | exact Drawn0.refl _ | apply Drawn0.step)⟩
            ·rw [if_neg c18] at H
             have c18b0 : decide ((bt a0 x8_1) < 48) = false := decide_eq_false c18
             clear c18
             by_cases c19 : (bt a0 x8_1) > 57
             ·rw [if_pos c19] at H
              have c19b0 : decide (57 < (bt a0 x8_1)) = true := decide_eq_true c19
              clear c19
              obtain rfl := Option.some.inj H
              have p5 : 0 ≤ (x8_1 : Int) := of_decide_eq_true (by (with_reducible assumption))
              have q5 : x8_1 < (a0.size : Int) := of_decide_eq_true (by (with_reducible assumption))
              have hx5 := bt_at a0 x8_1
              replace p5 := eq_true p5
              replace q5 := eq_true q5
              go_wp2
              go_ret
              exact ⟨by rfl, by repeat (first | exact Drawn0.refl _ | apply Drawn0.step)⟩
             ·rw [if_neg c19] at H
              have c19b0 : decide (57 < (bt a0 x8_1)) = false := decide_eq_false c19
              clear c19
              have H' := Aside0.mk H
              clear H
              have p5 : 0 ≤ (x8_1 : Int) := of_decide_eq_true (by (with_reducible assumption))
              have q5 : x8_1 < (a0.size : Int) := of_decide_eq_true (by (with_reducible assumption))
              have hx5 := bt_at a0 x8_1
              replace p5 := eq_true p5
              replace q5 := eq_true q5
              go_wp2
              go_roundg k1
              case measure => have := HK1.out; omega
              case rel => exact ⟨(wrap64 (x8_1 + 1)), (by rfl), H', ⟨by have := HK1.out; omega⟩, by repeat (first | exact Drawn0.refl _ | apply Drawn0.step)⟩
      ·rw [if_neg c6] at H
       have c6b0 : decide (97 ≤ (bt a0 x8_1)) = false := decide_eq_false c6
       clear c6
       by_cases c20 : (bt a0 x8_1) ≥ 65
       ·rw [if_pos c20] at H
        have c20b0 : decide (65 ≤ (bt a0 x8_1)) = true := decide_eq_true c20
        clear c20
        by_cases c21 : (bt a0 x8_1) ≤ 90
        ·rw [if_pos c21] at H
         have c21b0 : decide ((bt a0 x8_1) ≤ 90) = true := decide_eq_true c21
         clear c21
         have H' := Aside0.mk H
         clear H
         have p5 : 0 ≤ (x8_1 : Int) := of_decide_eq_true (by (with_reducible assumption))
         have q5 : x8_1 < (a0.size : Int) := of_decide_eq_true (by (with_reducible assumption))
         have hx5 := bt_at a0 x8_1
         replace p5 := eq_true p5
         replace q5 := eq_true q5
         go_wp2
         go_roundg k1
         case measure => have := HK1.out; omega
         case rel => exact ⟨(wrap64 (x8_1 + 1)), (by rfl), H', ⟨by have := HK1.out; omega⟩, by repeat (first | exact Drawn0.refl _ | apply Drawn0.step)⟩
        ·rw [if_neg c21] at H
         have c21b0 : decide ((bt a0 x8_1) ≤ 90) = false := decide_eq_false c21
         clear c21
         by_cases c22 : (bt a0 x8_1) = 95
         ·rw [if_pos c22] at H
          have c22b0 : ((bt a0 x8_1) == 95) = true := beq_iff_eq.mpr c22
          have c22b1 : ((bt a0 x8_1) != 95) = false := bne_eq_false_iff_eq.mpr c22
          clear c22
          have H' := Aside0.mk H
          clear H
          have p5 : 0 ≤ (x8_1 : Int) := of_decide_eq_true (by (with_reducible assumption))
          have q5 : x8_1 < (a0.size : Int) := of_decide_eq_true (by (with_reducible assumption))
          have hx5 := bt_at a0 x8_1
          replace p5 := eq_true p5
          replace q5 := eq_true q5
          go_wp2
          go_roundg k1
          case measure => have := HK1.out; omega
          case rel => exact ⟨(wrap64 (x8_1 + 1)), (by rfl), H', ⟨by have := HK1.out; omega⟩, by repeat (first | exact Drawn0.refl _ | apply Drawn0.step)⟩
         ·rw [if_neg c22] at H
          have c22b0 : ((bt a0 x8_1) == 95) = false := beq_eq_false_iff_ne.mpr c22
          have c22b1 : ((bt a0 x8_1) != 95) = true := bne_iff_ne.mpr c22
          by_cases c23 : ((bt a0 x8_1) = 46)
          ·rw [if_pos c23] at H
           have c23b0 : ((bt a0 x8_1) == 46) = true := beq_iff_eq.mpr c23
           have c23b1 : ((bt a0 x8_1) != 46) = false := bne_eq_false_iff_eq.mpr c23
           clear c23
           have H' := Aside0.mk H
           clear H
           have p5 : 0 ≤ (x8_1 : Int) := of_decide_eq_true (by (with_reducible assumption))
           have q5 : x8_1 < (a0.size : Int) := of_decide_eq_true (by (with_reducible assumption))
           have hx5 := bt_at a0 x8_1
           replace p5 := eq_true p5
           replace q5 := eq_true q5
           go_wp2
           go_roundg k1
           case measure => have := HK1.out; omega
           case rel => exact ⟨(wrap64 (x8_1 + 1)), (by rfl), H', ⟨by have := HK1.out; omega⟩, by repeat (first | exact Drawn0.refl _ | apply Drawn0.step)⟩
          ·rw [if_neg c23] at H
           have c23b0 : ((bt a0 x8_1) == 46) = false := beq_eq_false_iff_ne.mpr c23
           have c23b1 : ((bt a0 x8_1) != 46) = true := bne_iff_ne.mpr c23
           by_cases c24 : x8_1 = 0
           ·rw [if_pos c24] at H
            have c24b0 : (x8_1 == 0) = true := beq_iff_eq.mpr c24
            have c24b1 : (x8_1 != 0) = false := bne_eq_false_iff_eq.mpr c24
            clear c24
            obtain rfl := Option.some.inj H
            have p5 : 0 ≤ (x8_1 : Int) := of_decide_eq_true (by (with_reducible assumption))
            have q5 : x8_1 < (a0.size : Int) := of_decide_eq_true (by (with_reducible assumption))
            have hx5 := bt_at a0 x8_1
            replace p5 := eq_true p5
            replace q5 := eq_true q5
            go_wp2
            go_ret
            exact ⟨by rfl, by repeat (first | exact Drawn0.refl _ | apply Drawn0.step)⟩
           ·rw [if_neg c24] at H
            have c24b0 : (x8_1 == 0) = false := beq_eq_false_iff_ne.mpr c24
            have c24b1 : (x8_1 != 0) = true := bne_iff_ne.mpr c24
            by_cases c25 : (bt a0 x8_1) < 48
            ·rw [if_pos c25] at H
             have c25b0 : decide ((bt a0 x8_1) < 48) = true := decide_eq_true c25
             clear c25
             obtain rfl := Option.some.inj H
             have p5 : 0 ≤ (x8_1 : Int) := of_decide_eq_true (by (with_reducible assumption))
             have q5 : x8_1 < (a0.size : Int) := of_decide_eq_true (by (with_reducible assumption))
             have hx5 := bt_at a0 x8_1
             replace p5 := eq_true p5
             replace q5 := eq_true q5
             go_wp2
             go_ret
             exact ⟨by rfl, by repeat (first | exact Drawn0.refl _ | apply Drawn0.step)⟩
            ·rw [if_neg c25] at H
             have c25b0 : decide ((bt a0 x8_1) < 48) = false := decide_eq_false c25
             clear c25
             by_cases c26 : (bt a0 x8_1) > 57
             ·rw [if_pos c26] at H
              have c26b0 : decide (57 < (bt a0 x8_1)) = true := decide_eq_true c26
              clear c26
              obtain rfl := Option.some.inj H
              have p5 : 0 ≤ (x8_1 : Int) := of_decide_eq_true (by (with_reducible assumption))
              have q5 : x8_1 < (a0.size : Int) := of_decide_eq_true (by (with_reducible assumption))
              have hx5 := bt_at a0 x8_1
              replace p5 := eq_true p5
              replace q5 := eq_true q5
              go_wp2
              go_ret
              exact ⟨by rfl, by repeat (first | exact Drawn0.refl _ | apply Drawn0.step)⟩
             ·rw [if_neg c26] at H
              have c26b0 : decide (57 < (bt a0 x8_1)) = false := decide_eq_false c26
              clear c26
              have H' := Aside0.mk H
              clear H
              have p5 : 0 ≤ (x8_1 : Int) := of_decide_eq_true (by (with_reducible assumption))
              have q5 : x8_1 < (a0.size : Int) := of_decide_eq_true (by (with_reducible assumption))
              have hx5 := bt_at a0 x8_1
              replace p5 := eq_true p5
              replace q5 := eq_true q5
              go_wp2
              go_roundg k1
              case measure => have := HK1.out; omega
              case rel => exact ⟨(wrap64 (x8_1 + 1)), (by rfl), H', ⟨by have := HK1.out; omega⟩, by repeat (first | exact Drawn0.refl _ | apply Drawn0.step)⟩
       ·rw [if_neg c20] at H
        have c20b0 : decide (65 ≤ (bt a0 x8_1)) = false := decide_eq_false c20
        clear c20
        by_cases c27 : (bt a0 x8_1) = 95
        ·rw [if_pos c27] at H
         have c27b0 : ((bt a0 x8_1) == 95) = true := beq_iff_eq.mpr c27
         have c27b1 : ((bt a0 x8_1) != 95) = false := bne_eq_false_iff_eq.mpr c27
         clear c27
         have H' := Aside0.mk H
         clear H
         have p5 : 0 ≤ (x8_1 : Int) := of_decide_eq_true (by (with_reducible assumption))
         have q5 : x8_1 < (a0.size : Int) := of_decide_eq_true (by (with_reducible assumption))
         have hx5 := bt_at a0 x8_1
         replace p5 := eq_true p5
         replace q5 := eq_true q5
         go_wp2
         go_roundg k1
         case measure => have := HK1.out; omega
         case rel => exact ⟨(wrap64 (x8_1 + 1)), (by rfl), H', ⟨by have := HK1.out; omega⟩, by repeat (first | exact Drawn0.refl _ | apply Drawn0.step)⟩
        ·rw [if_neg c27] at H
         have c27b0 : ((bt a0 x8_1) == 95) = false := beq_eq_false_iff_ne.mpr c27
         have c27b1 : ((bt a0 x8_1) != 95) = true := bne_iff_ne.mpr c27
         by_cases c28 : ((bt a0 x8_1) = 46)
         ·rw [if_pos c28] at H
          have c28b0 : ((bt a0 x8_1) == 46) = true := beq_iff_eq.mpr c28
          have c28b1 : ((bt a0 x8_1) != 46) = false := bne_eq_false_iff_eq.mpr c28
          clear c28
          have H' := Aside0.mk H
          clear H
          have p5 : 0 ≤ (x8_1 : Int) := of_decide_eq_true (by (with_reducible assumption))
          have q5 : x8_1 < (a0.size : Int) := of_decide_eq_true (by (with_reducible assumption))
          have hx5 := bt_at a0 x8_1
          replace p5 := eq_true p5
          replace q5 := eq_true q5
          go_wp2
          go_roundg k1
          case measure => have := HK1.out; omega
          case rel => exact ⟨(wrap64 (x8_1 + 1)), (by rfl), H', ⟨by have := HK1.out; omega⟩, by repeat (first | exact Drawn0.refl _ | apply Drawn0.step)⟩
         ·rw [if_neg c28] at H
          have c28b0 : ((bt a0 x8_1) == 46) = false := beq_eq_false_iff_ne.mpr c28
          have c28b1 : ((bt a0 x8_1) != 46) = true := bne_iff_ne.mpr c28
          by_cases c29 : x8_1 = 0
          ·rw [if_pos c29] at H
           have c29b0 : (x8_1 == 0) = true := beq_iff_eq.mpr c29
           have c29b1 : (x8_1 != 0) = false := bne_eq_false_iff_eq.mpr c29
           clear c29
           obtain rfl := Option.some.inj H
           have p5 : 0 ≤ (x8_1 : Int) := of_decide_eq_true (by (with_reducible assumption))
           have q5 : x8_1 < (a0.size : Int) := of_decide_eq_true (by (with_reducible assumption))
           have hx5 := bt_at a0 x8_1
           replace p5 := eq_true p5
           replace q5 := eq_true q5
           go_wp2
           go_ret
           exact ⟨by rfl, by repeat (first | exact Drawn0.refl _ | apply Drawn0.step)⟩
          ·rw [if_neg c29] at H
           have c29b0 : (x8_1 == 0) = false := beq_eq_false_iff_ne.mpr c29
           have c29b1 : (x8_1 != 0) = true := bne_iff_ne.mpr c29
           by_cases c30 : (bt a0 x8_1) < 48
           ·rw [if_pos c30] at H
            have c30b0 : decide ((bt a0 x8_1) < 48) = true := decide_eq_true c30
            clear c30
            obtain rfl := Option.some.inj H
            have p5 : 0 ≤ (x8_1 : Int) := of_decide_eq_true (by (with_reducible assumption))
            have q5 : x8_1 < (a0.size : Int) := of_decide_eq_true (by (with_reducible assumption))
            have hx5 := bt_at a0 x8_1
            replace p5 := eq_true p5
            replace q5 := eq_true q5
            go_wp2
            go_ret
            exact ⟨by rfl, by repeat (first | exact Drawn0.refl _ | apply Drawn0.step)⟩
           ·rw [if_neg c30] at H
            have c30b0 : decide ((bt a0 x8_1) < 48) = false := decide_eq_false c30
            clear c30
            by_cases c31 : (bt a0 x8_1) > 57
            ·rw [if_pos c31] at H
             have c31b0 : decide (57 < (bt a0 x8_1)) = true := decide_eq_true c31
             clear c31
             obtain rfl := Option.some.inj H
             have p5 : 0 ≤ (x8_1 : Int) := of_decide_eq_true (by (with_reducible assumption))
             have q5 : x8_1 < (a0.size : Int) := of_decide_eq_true (by (with_reducible assumption))
             have hx5 := bt_at a0 x8_1
             replace p5 := eq_true p5
             replace q5 := eq_true q5
             go_wp2
             go_ret
             exact ⟨by rfl, by repeat (first | exact Drawn0.refl _ | apply Drawn0.step)⟩
            ·rw [if_neg c31] at H
             have c31b0 : decide (57 < (bt a0 x8_1)) = false := decide_eq_false c31
             clear c31
             have H' := Aside0.mk H
             clear H
             have p5 : 0 ≤ (x8_1 : Int) := of_decide_eq_true (by (with_reducible assumption))
             have q5 : x8_1 < (a0.size : Int) := of_decide_eq_true (by (with_reducible assumption))
             have hx5 := bt_at a0 x8_1
             replace p5 := eq_true p5
             replace q5 := eq_true q5
             go_wp2
             go_roundg k1
             case measure => have := HK1.out; omega
             case rel => exact ⟨(wrap64 (x8_1 + 1)), (by rfl), H', ⟨by have := HK1.out; omega⟩, by repeat (first | exact Drawn0.refl _ | apply Drawn0.step)⟩
     ·rw [if_neg c4] at H
      exact absurd H (by simp)
    ·rw [if_neg c3] at H
     exact absurd H (by simp)
   ·rw [if_neg c2] at H
    have c2b0 : decide (x8_1 < (a0.size : Int)) = false := decide_eq_false c2
    clear c2
    by_cases c32 : (a0.size : Int) ≥ 1
    ·rw [if_pos c32] at H
     have c32b0 : decide (1 ≤ (a0.size : Int)) = true := decide_eq_true c32
     have c32b1 : decide (1 ≤ a0.size) = true := decide_eq_true (by omega)
     clear c32
     obtain rfl := Option.some.inj H
     go_wp2
     go_ret
     exact ⟨by rfl, by repeat (first | exact Drawn0.refl _ | apply Drawn0.step)⟩
    ·rw [if_neg c32] at H
     have c32b0 : decide (1 ≤ (a0.size : Int)) = false := decide_eq_false c32
     have c32b1 : decide (1 ≤ a0.size) = false := decide_eq_false (by omega)
     clear c32
     obtain rfl := Option.some.inj H
     go_wp2
     go_ret
     exact ⟨by rfl, by repeat (first | exact Drawn0.refl _ | apply Drawn0.step)⟩

end Go.Proofs.Ytpoofggcodiaiaa.X
