/- Texts of this seat that a claim bears, put together by this session's own program shake.py: X9. -/
import Derived.Test.YtabkinlpbefjgaaKd5
namespace Go.Proofs.Ytabkinlpbefjgaa.X
open Go.RowKit Go.Proofs.YtabkinlpbefjgaaW.PrintWords Go.Proofs.YtabkinlpbefjgaaW.PrintLast Go.Proofs.YtabkinlpbefjgaaW.PrintMore
attribute [local go_sem] max2_int min2_int max_two min_two max_three min_three max_four min_four   -- for this text's walks alone
set_option linter.unusedVariables false
set_option linter.unusedSimpArgs false
def brazierref01_Round.f (a0 : Int) : Option (Int) := if (Int.tmod a0 4294967296) < 0 then (if (wrap64 ((Int.tmod a0 4294967296) + 4294967296)) ≥ 2147483648 then (some (wrap32 (wrap64 ((wrap64 ((Int.tmod a0 4294967296) + 4294967296)) - 4294967296)))) else (some (wrap32 (wrap64 ((Int.tmod a0 4294967296) + 4294967296))))) else (if (Int.tmod a0 4294967296) ≥ 2147483648 then (some (wrap32 (wrap64 ((Int.tmod a0 4294967296) - 4294967296)))) else (some (wrap32 (Int.tmod a0 4294967296))))
set_option maxHeartbeats 8000000 in
set_option maxRecDepth 100000 in
theorem brazierref01_Round.calls (a0 : Int) (r : Int) (w : World) (h : brazierref01_Round.f a0 = some r) :
    Calls Try.prog 47 #[.int .i64 a0] w fun e w' => e = .returned (.int .i32 r) ∧ Drawn0 w w' := by
  have H : (if (Int.tmod a0 4294967296) < 0 then (if (wrap64 ((Int.tmod a0 4294967296) + 4294967296)) ≥ 2147483648 then (some (wrap32 (wrap64 ((wrap64 ((Int.tmod a0 4294967296) + 4294967296)) - 4294967296)))) else (some (wrap32 (wrap64 ((Int.tmod a0 4294967296) + 4294967296))))) else (if (Int.tmod a0 4294967296) ≥ 2147483648 then (some (wrap32 (wrap64 ((Int.tmod a0 4294967296) - 4294967296)))) else (some (wrap32 (Int.tmod a0 4294967296))))) = some r := h
  clear h
  by_cases c2 : (Int.tmod a0 4294967296) < 0
  · rw [if_pos c2] at H
    have c2b0 : decide ((Int.tmod a0 4294967296) < 0) = true := decide_eq_true c2
    clear c2
    by_cases c3 : (wrap64 ((Int.tmod a0 4294967296) + 4294967296)) ≥ 2147483648
    · rw [if_pos c3] at H
      have c3b0 : decide (2147483648 ≤ (wrap64 ((Int.tmod a0 4294967296) + 4294967296))) = true := decide_eq_true c3
      clear c3
      obtain rfl := Option.some.inj H
      go_enter Try.func47, Try.ntmps47
      go_wp2
      go_ret
      exact ⟨by first | rfl | (simp; done) | (simp [*]; done), by repeat (first | exact Drawn0.refl _ | apply Drawn0.step)⟩
    · rw [if_neg c3] at H
      have c3b0 : decide (2147483648 ≤ (wrap64 ((Int.tmod a0 4294967296) + 4294967296))) = false := decide_eq_false c3
      clear c3
      obtain rfl := Option.some.inj H
      go_enter Try.func47, Try.ntmps47
      go_wp2
      go_ret
      exact ⟨by first | rfl | (simp; done) | (simp [*]; done), by repeat (first | exact Drawn0.refl _ | apply Drawn0.step)⟩
  · rw [if_neg c2] at H
    have c2b0 : decide ((Int.tmod a0 4294967296) < 0) = false := decide_eq_false c2
    clear c2
    by_cases c4 : (Int.tmod a0 4294967296) ≥ 2147483648
    · rw [if_pos c4] at H
      have c4b0 : decide (2147483648 ≤ (Int.tmod a0 4294967296)) = true := decide_eq_true c4
      clear c4
      obtain rfl := Option.some.inj H
      go_enter Try.func47, Try.ntmps47
      go_wp2
      go_ret
      exact ⟨by first | rfl | (simp; done) | (simp [*]; done), by repeat (first | exact Drawn0.refl _ | apply Drawn0.step)⟩
    · rw [if_neg c4] at H
      have c4b0 : decide (2147483648 ≤ (Int.tmod a0 4294967296)) = false := decide_eq_false c4
      clear c4
      obtain rfl := Option.some.inj H
      go_enter Try.func47, Try.ntmps47
      go_wp2
      go_ret
      exact ⟨by first | rfl | (simp; done) | (simp [*]; done), by repeat (first | exact Drawn0.refl _ | apply Drawn0.step)⟩
def brazierref01_truth.f (a0 : Bool) : Option (Int) := if a0 = true then (some 1) else (some 0)
set_option maxHeartbeats 8000000 in
set_option maxRecDepth 100000 in
theorem brazierref01_truth.calls (a0 : Bool) (r : Int) (w : World) (h : brazierref01_truth.f a0 = some r) :
    Calls Try.prog 48 #[.bool a0] w fun e w' => e = .returned (.int .i32 r) ∧ Drawn0 w w' := by
  have H : (if a0 = true then (some 1) else (some 0)) = some r := h
  clear h
  by_cases c2 : a0 = true
  · subst c2
    have H1 : (some 1) = some r := by rw [if_pos rfl] at H; exact H
    clear H
    have H := H1
    clear H1
    obtain rfl := Option.some.inj H
    go_enter Try.func48, Try.ntmps48
    go_wp2
    go_ret
    exact ⟨by first | rfl | (simp; done) | (simp [*]; done), by repeat (first | exact Drawn0.refl _ | apply Drawn0.step)⟩
  · replace c2 := Bool.eq_false_iff.mpr c2
    subst c2
    have H1 : (some 0) = some r := by rw [if_neg (show ¬ (false = true) by decide)] at H; exact H
    clear H
    have H := H1
    clear H1
    obtain rfl := Option.some.inj H
    go_enter Try.func48, Try.ntmps48
    go_wp2
    go_ret
    exact ⟨by first | rfl | (simp; done) | (simp [*]; done), by repeat (first | exact Drawn0.refl _ | apply Drawn0.step)⟩
def brazierref01_bits.f (a0 : Int) : Option (Int) := if a0 < 0 then (some (wrap64 ((wrap64 (a0)) + 4294967296))) else (some (wrap64 (a0)))
set_option maxHeartbeats 8000000 in
set_option maxRecDepth 100000 in
theorem brazierref01_bits.calls (a0 : Int) (r : Int) (w : World) (h : brazierref01_bits.f a0 = some r) :
    Calls Try.prog 49 #[.int .i32 a0] w fun e w' => e = .returned (.int .i64 r) ∧ Drawn0 w w' := by
  have H : (if a0 < 0 then (some (wrap64 ((wrap64 (a0)) + 4294967296))) else (some (wrap64 (a0)))) = some r := h
  clear h
  by_cases c2 : a0 < 0
  · rw [if_pos c2] at H
    have c2b0 : decide (a0 < 0) = true := decide_eq_true c2
    clear c2
    obtain rfl := Option.some.inj H
    go_enter Try.func49, Try.ntmps49
    go_wp2
    go_ret
    exact ⟨by first | rfl | (simp; done) | (simp [*]; done), by repeat (first | exact Drawn0.refl _ | apply Drawn0.step)⟩
  · rw [if_neg c2] at H
    have c2b0 : decide (a0 < 0) = false := decide_eq_false c2
    clear c2
    obtain rfl := Option.some.inj H
    go_enter Try.func49, Try.ntmps49
    go_wp2
    go_ret
    exact ⟨by first | rfl | (simp; done) | (simp [*]; done), by repeat (first | exact Drawn0.refl _ | apply Drawn0.step)⟩
def brazierref01_floor.f (a0 : Int) (a1 : Int) : Option (Int) := if a1 = 0 then (none) else (if (wrap64 ((wrap64 (Int.tdiv a0 a1)) * a1)) > a0 then (some (wrap64 ((wrap64 (Int.tdiv a0 a1)) - 1))) else (some (wrap64 (Int.tdiv a0 a1))))
set_option maxHeartbeats 8000000 in
set_option maxRecDepth 100000 in
theorem brazierref01_floor.calls (a0 : Int) (a1 : Int) (r : Int) (w : World) (h : brazierref01_floor.f a0 a1 = some r) :
    Calls Try.prog 50 #[.int .i64 a0, .int .i64 a1] w fun e w' => e = .returned (.int .i64 r) ∧ Drawn0 w w' := by
  have H : (if a1 = 0 then (none) else (if (wrap64 ((wrap64 (Int.tdiv a0 a1)) * a1)) > a0 then (some (wrap64 ((wrap64 (Int.tdiv a0 a1)) - 1))) else (some (wrap64 (Int.tdiv a0 a1))))) = some r := h
  clear h
  by_cases c3 : a1 = 0
  · rw [if_pos c3] at H
    exact absurd H (by simp)
  · rw [if_neg c3] at H
    have c3b0 : (a1 == 0) = false := beq_eq_false_iff_ne.mpr c3
    have c3b1 : (a1 != 0) = true := bne_iff_ne.mpr c3
    by_cases c4 : (wrap64 ((wrap64 (Int.tdiv a0 a1)) * a1)) > a0
    · rw [if_pos c4] at H
      have c4b0 : decide (a0 < (wrap64 ((wrap64 (Int.tdiv a0 a1)) * a1))) = true := decide_eq_true c4
      clear c4
      obtain rfl := Option.some.inj H
      go_enter Try.func50, Try.ntmps50
      go_wp2
      go_ret
      exact ⟨by first | rfl | (simp; done) | (simp [*]; done), by repeat (first | exact Drawn0.refl _ | apply Drawn0.step)⟩
    · rw [if_neg c4] at H
      have c4b0 : decide (a0 < (wrap64 ((wrap64 (Int.tdiv a0 a1)) * a1))) = false := decide_eq_false c4
      clear c4
      obtain rfl := Option.some.inj H
      go_enter Try.func50, Try.ntmps50
      go_wp2
      go_ret
      exact ⟨by first | rfl | (simp; done) | (simp [*]; done), by repeat (first | exact Drawn0.refl _ | apply Drawn0.step)⟩
mutual
def brazierref01_Bin.l0 : Nat → Int → Int → Int → Int → Int → Int → Int → Option (Int × Bool)
  | 0, _, _, _, _, _, _, _ => none
  | k + 1, x0, x1, x2, x8, x9, x10, x11 => (brazierref01_bits.f x2).bind fun t192 => (if x11 < (Int.tmod t192 32) then (brazierref01_Bin.l0 k x0 x1 x2 x8 x9 (wrap64 (x10 * 2)) (wrap64 (x11 + 1))) else (brazierref01_Bin.l1 k x0 x1 x2 x8 x9 x10 0 0 1 0))
def brazierref01_Bin.l1 : Nat → Int → Int → Int → Int → Int → Int → Int → Int → Int → Int → Option (Int × Bool)
  | 0, _, _, _, _, _, _, _, _, _, _ => none
  | k + 1, x0, x1, x2, x8, x9, x10, x12, x13, x14, x15 => if x15 < 32 then ((brazierref01_bits.f x1).bind fun t193 => (if x14 = 0 then (none) else ((brazierref01_bits.f x2).bind fun t194 => (brazierref01_Bin.l1 k x0 x1 x2 x8 x9 x10 (wrap64 (x12 + (wrap64 ((wrap64 ((Int.tmod (wrap64 (Int.tdiv t193 x14)) 2) * (Int.tmod (wrap64 (Int.tdiv t194 x14)) 2))) * x14)))) (wrap64 (x13 + (wrap64 ((wrap64 ((wrap64 ((Int.tmod (wrap64 (Int.tdiv t193 x14)) 2) + (Int.tmod (wrap64 (Int.tdiv t194 x14)) 2))) - (wrap64 ((Int.tmod (wrap64 (Int.tdiv t193 x14)) 2) * (Int.tmod (wrap64 (Int.tdiv t194 x14)) 2))))) * x14)))) (wrap64 (x14 * 2)) (wrap64 (x15 + 1)))))) else (if x0 = 1 then ((brazierref01_Round.f (wrap64 (x8 + x9))).bind fun t195 => (some (t195, true))) else (if x0 = 2 then ((brazierref01_Round.f (wrap64 (x8 - x9))).bind fun t196 => (some (t196, true))) else (if x0 = 3 then ((brazierref01_Round.f (wrap64 (x8 * x9))).bind fun t197 => (some (t197, true))) else (if x0 = 4 then (if x9 = 0 then (some (0, false)) else ((brazierref01_Round.f (wrap64 (Int.tdiv x8 x9))).bind fun t198 => (some (t198, true)))) else (if x0 = 5 then (if x9 = 0 then (some (0, false)) else ((brazierref01_Round.f (wrap64 (x8 - (wrap64 ((wrap64 (Int.tdiv x8 x9)) * x9))))).bind fun t199 => (some (t199, true)))) else (if x0 = 6 then ((brazierref01_Round.f (wrap64 (x8 * x10))).bind fun t200 => (some (t200, true))) else (if x0 = 7 then ((brazierref01_floor.f x8 x10).bind fun t201 => ((brazierref01_Round.f t201).bind fun t202 => (some (t202, true)))) else (if x0 = 8 then ((brazierref01_Round.f x12).bind fun t203 => (some (t203, true))) else (if x0 = 9 then ((brazierref01_Round.f x13).bind fun t204 => (some (t204, true))) else (if x0 = 10 then ((brazierref01_Round.f (wrap64 (x13 - x12))).bind fun t205 => (some (t205, true))) else (if x0 = 11 then ((brazierref01_truth.f (decide (x8 < x9))).bind fun t206 => (some (t206, true))) else (if x0 = 12 then ((brazierref01_truth.f (decide (x8 ≤ x9))).bind fun t207 => (some (t207, true))) else (if x0 = 13 then ((brazierref01_truth.f (decide (x8 > x9))).bind fun t208 => (some (t208, true))) else (if x0 = 14 then ((brazierref01_truth.f (decide (x8 ≥ x9))).bind fun t209 => (some (t209, true))) else (if x0 = 15 then ((brazierref01_truth.f (x8 == x9)).bind fun t210 => (some (t210, true))) else (if x0 = 16 then ((brazierref01_truth.f (x8 != x9)).bind fun t211 => (some (t211, true))) else (if x0 = 17 then ((brazierref01_truth.f ((wrap64 (x8 * x9)) != 0)).bind fun t212 => (some (t212, true))) else (if x0 = 18 then (if x8 = 0 then ((brazierref01_truth.f (x9 != 0)).bind fun t213 => (some (t213, true))) else ((brazierref01_truth.f true).bind fun t214 => (some (t214, true)))) else (some (0, false))))))))))))))))))))
end
def brazierref01_Bin.f (k : Nat) (a0 : Int) (a1 : Int) (a2 : Int) : Option (Int × Bool) := brazierref01_Bin.l0 k a0 a1 a2 (wrap64 (a1)) (wrap64 (a2)) 1 0
theorem brazierref01_Bin.mono_l : ∀ k, (∀ y0 y1 y2 y3 y4 y5 y6, LeO (brazierref01_Bin.l0 k y0 y1 y2 y3 y4 y5 y6) (brazierref01_Bin.l0 (k + 1) y0 y1 y2 y3 y4 y5 y6)) ∧ (∀ y0 y1 y2 y3 y4 y5 y6 y7 y8 y9, LeO (brazierref01_Bin.l1 k y0 y1 y2 y3 y4 y5 y6 y7 y8 y9) (brazierref01_Bin.l1 (k + 1) y0 y1 y2 y3 y4 y5 y6 y7 y8 y9))
  | 0 => ⟨fun _ _ _ _ _ _ _ r h => by simp [brazierref01_Bin.l0] at h, fun _ _ _ _ _ _ _ _ _ _ r h => by simp [brazierref01_Bin.l1] at h⟩
  | k + 1 => by
    obtain ⟨ih0, ih1⟩ := brazierref01_Bin.mono_l k
    refine ⟨?_, ?_⟩
    · intro y0 y1 y2 y3 y4 y5 y6
      unfold brazierref01_Bin.l0
      repeat' first
      | (with_reducible exact ih0 _ _ _ _ _ _ _)
      | (with_reducible exact ih1 _ _ _ _ _ _ _ _ _ _)
      | (with_reducible exact LeO.refl _)
      | (with_reducible exact LeO.none _)
      | (with_reducible refine LeO.ite ?_ ?_)
      | (with_reducible refine LeO.bind ?_ (fun _ => ?_))
      | exact ih0 _ _ _ _ _ _ _
      | exact ih1 _ _ _ _ _ _ _ _ _ _
      | exact LeO.none _
      | refine LeO.ite ?_ ?_
      | refine LeO.bind ?_ (fun _ => ?_)
    · intro y0 y1 y2 y3 y4 y5 y6 y7 y8 y9
      unfold brazierref01_Bin.l1
      repeat' first
      | (with_reducible exact ih0 _ _ _ _ _ _ _)
      | (with_reducible exact ih1 _ _ _ _ _ _ _ _ _ _)
      | (with_reducible exact LeO.refl _)
      | (with_reducible exact LeO.none _)
      | (with_reducible refine LeO.ite ?_ ?_)
      | (with_reducible refine LeO.bind ?_ (fun _ => ?_))
      | exact ih0 _ _ _ _ _ _ _
      | exact ih1 _ _ _ _ _ _ _ _ _ _
      | exact LeO.none _
      | refine LeO.ite ?_ ?_
      | refine LeO.bind ?_ (fun _ => ?_)
theorem brazierref01_Bin.mono : ∀ a0 a1 a2 k, LeO (brazierref01_Bin.f k a0 a1 a2) (brazierref01_Bin.f (k + 1) a0 a1 a2) := by
  intro a0 a1 a2 k
  obtain ⟨ih0, ih1⟩ := brazierref01_Bin.mono_l k
  unfold brazierref01_Bin.f
  repeat' first
      | (with_reducible exact ih0 _ _ _ _ _ _ _)
      | (with_reducible exact ih1 _ _ _ _ _ _ _ _ _ _)
      | (with_reducible exact LeO.refl _)
      | (with_reducible exact LeO.none _)
      | (with_reducible refine LeO.ite ?_ ?_)
      | (with_reducible refine LeO.bind ?_ (fun _ => ?_))
      | exact ih0 _ _ _ _ _ _ _
      | exact ih1 _ _ _ _ _ _ _ _ _ _
      | exact LeO.none _
      | refine LeO.ite ?_ ?_
      | refine LeO.bind ?_ (fun _ => ?_)
set_option maxHeartbeats 8000000 in
set_option maxRecDepth 100000 in
theorem brazierref01_Bin.calls (k : Nat) (a0 : Int) (a1 : Int) (a2 : Int) (r1 : Int) (r2 : Bool) (w : World) (h : brazierref01_Bin.f k a0 a1 a2 = some (r1, r2)) :
    Calls Try.prog 41 #[.int .i64 a0, .int .i32 a1, .int .i32 a2] w fun e w' => e = .returned (.tuple #[.int .i32 r1, .bool r2]) ∧ Drawn0 w w' := by
  have H : (brazierref01_Bin.l0 k a0 a1 a2 (wrap64 (a1)) (wrap64 (a2)) 1 0) = some (r1, r2) := h
  clear h
  have H' := Aside0.mk H
  clear H
  go_enter Try.func41, Try.ntmps41
  go_wp2
  repeat (go_quiet (fail); try go_wp2)
  go_loopg [10, 11] k (fun kq v10 v11 w' => ∃ (x10_1 : Int) (x11_1 : Int), v10 = .int .i64 x10_1 ∧ v11 = .int .i64 x11_1 ∧ Aside0 (brazierref01_Bin.l0 kq a0 a1 a2 (wrap64 (a1)) (wrap64 (a2)) x10_1 x11_1 = some (r1, r2)) ∧ Aside0 (kq ≤ k) ∧ Drawn0 w w')
  case atStart => exact ⟨(1), (0), (by first | rfl | (simp; done) | (simp [*]; done)), (by first | rfl | (simp; done) | (simp [*]; done)), H', ⟨Nat.le_refl _⟩, by repeat (first | exact Drawn0.refl _ | apply Drawn0.step)⟩
  case round =>
    clear H'
    try clear p2
    obtain ⟨x10_1, x11_1, rfl, rfl, HA, HK1, ⟨m1, rfl⟩⟩ := hrel
    cases gk with
    | zero => exact absurd HA.out (by simp [brazierref01_Bin.l0])
    | succ k1 =>
      have H := HA.out
      clear HA
      simp only [brazierref01_Bin.l0] at H
      replace H := Option.bind_eq_some_iff.mp H
      obtain ⟨t192, A40, H⟩ := H
      replace H : (if x11_1 < (Int.tmod t192 32) then (brazierref01_Bin.l0 k1 a0 a1 a2 (wrap64 (a1)) (wrap64 (a2)) (wrap64 (x10_1 * 2)) (wrap64 (x11_1 + 1))) else (brazierref01_Bin.l1 k1 a0 a1 a2 (wrap64 (a1)) (wrap64 (a2)) x10_1 0 0 1 0)) = some (r1, r2) := H
      have A4 := Aside0.mk A40
      clear A40
      by_cases c5 : x11_1 < (Int.tmod t192 32)
      · rw [if_pos c5] at H
        have c5b0 : decide (x11_1 < (Int.tmod t192 32)) = true := decide_eq_true c5
        clear c5
        have H' := Aside0.mk H
        clear H
        go_wp2_with (first | (go_at_call 49; (with_reducible refine (brazierref01_bits.calls a2 t192 _ A4.out).mono ?_); rintro e w' ⟨rfl, ⟨nd, rfl⟩⟩; (try first | exact ⟨rfl, _, World.drewN_drewN _ _ _⟩ | exact ⟨rfl, _, Eq.trans (World.drewN_drewN _ _ _) (congrArg (World.drewN _) (Nat.add_assoc _ _ _))⟩)))
        repeat (go_quiet (first | (go_at_call 49; (with_reducible refine (brazierref01_bits.calls a2 t192 _ A4.out).mono ?_); rintro e w' ⟨rfl, ⟨nd, rfl⟩⟩; (try first | exact ⟨rfl, _, World.drewN_drewN _ _ _⟩ | exact ⟨rfl, _, Eq.trans (World.drewN_drewN _ _ _) (congrArg (World.drewN _) (Nat.add_assoc _ _ _))⟩))); try go_wp2_with (first | (go_at_call 49; (with_reducible refine (brazierref01_bits.calls a2 t192 _ A4.out).mono ?_); rintro e w' ⟨rfl, ⟨nd, rfl⟩⟩; (try first | exact ⟨rfl, _, World.drewN_drewN _ _ _⟩ | exact ⟨rfl, _, Eq.trans (World.drewN_drewN _ _ _) (congrArg (World.drewN _) (Nat.add_assoc _ _ _))⟩))))
        go_roundg k1
        case measure => have := HK1.out; omega
        case rel => exact ⟨(wrap64 (x10_1 * 2)), (wrap64 (x11_1 + 1)), (by first | rfl | (simp; done) | (simp [*]; done)), (by first | rfl | (simp; done) | (simp [*]; done)), H', ⟨by have := HK1.out; omega⟩, by repeat (first | exact Drawn0.refl _ | apply Drawn0.step)⟩
      · rw [if_neg c5] at H
        have c5b0 : decide (x11_1 < (Int.tmod t192 32)) = false := decide_eq_false c5
        clear c5
        have H' := Aside0.mk H
        clear H
        go_wp2_with (first | (go_at_call 49; (with_reducible refine (brazierref01_bits.calls a2 t192 _ A4.out).mono ?_); rintro e w' ⟨rfl, ⟨nd, rfl⟩⟩; (try first | exact ⟨rfl, _, World.drewN_drewN _ _ _⟩ | exact ⟨rfl, _, Eq.trans (World.drewN_drewN _ _ _) (congrArg (World.drewN _) (Nat.add_assoc _ _ _))⟩)))
        repeat (go_quiet (first | (go_at_call 49; (with_reducible refine (brazierref01_bits.calls a2 t192 _ A4.out).mono ?_); rintro e w' ⟨rfl, ⟨nd, rfl⟩⟩; (try first | exact ⟨rfl, _, World.drewN_drewN _ _ _⟩ | exact ⟨rfl, _, Eq.trans (World.drewN_drewN _ _ _) (congrArg (World.drewN _) (Nat.add_assoc _ _ _))⟩))); try go_wp2_with (first | (go_at_call 49; (with_reducible refine (brazierref01_bits.calls a2 t192 _ A4.out).mono ?_); rintro e w' ⟨rfl, ⟨nd, rfl⟩⟩; (try first | exact ⟨rfl, _, World.drewN_drewN _ _ _⟩ | exact ⟨rfl, _, Eq.trans (World.drewN_drewN _ _ _) (congrArg (World.drewN _) (Nat.add_assoc _ _ _))⟩))))
        go_loopg [12, 13, 14, 15] k1 (fun kq v12 v13 v14 v15 w' => ∃ (x12_2 : Int) (x13_2 : Int) (x14_2 : Int) (x15_2 : Int), v12 = .int .i64 x12_2 ∧ v13 = .int .i64 x13_2 ∧ v14 = .int .i64 x14_2 ∧ v15 = .int .i64 x15_2 ∧ Aside0 (brazierref01_Bin.l1 kq a0 a1 a2 (wrap64 (a1)) (wrap64 (a2)) x10_1 x12_2 x13_2 x14_2 x15_2 = some (r1, r2)) ∧ Aside0 (kq ≤ k1) ∧ Drawn0 w w')
        case atStart => exact ⟨(0), (0), (1), (0), (by first | rfl | (simp; done) | (simp [*]; done)), (by first | rfl | (simp; done) | (simp [*]; done)), (by first | rfl | (simp; done) | (simp [*]; done)), (by first | rfl | (simp; done) | (simp [*]; done)), H', ⟨Nat.le_refl _⟩, by repeat (first | exact Drawn0.refl _ | apply Drawn0.step)⟩
        case round =>
          clear H'
          try clear p2
          try clear c4
          try clear c5
          try clear c5b0
          try clear p2
          obtain ⟨x12_2, x13_2, x14_2, x15_2, rfl, rfl, rfl, rfl, HA, HK2, ⟨m2, rfl⟩⟩ := hrel
          cases gk with
          | zero => exact absurd HA.out (by simp [brazierref01_Bin.l1])
          | succ k2 =>
            have H := HA.out
            clear HA
            simp only [brazierref01_Bin.l1] at H
            by_cases c6 : x15_2 < 32
            · rw [if_pos c6] at H
              have c6b0 : decide (x15_2 < 32) = true := decide_eq_true c6
              clear c6
              replace H := Option.bind_eq_some_iff.mp H
              obtain ⟨t193, A70, H⟩ := H
              replace H : (if x14_2 = 0 then (none) else ((brazierref01_bits.f a2).bind fun t194 => (brazierref01_Bin.l1 k2 a0 a1 a2 (wrap64 (a1)) (wrap64 (a2)) x10_1 (wrap64 (x12_2 + (wrap64 ((wrap64 ((Int.tmod (wrap64 (Int.tdiv t193 x14_2)) 2) * (Int.tmod (wrap64 (Int.tdiv t194 x14_2)) 2))) * x14_2)))) (wrap64 (x13_2 + (wrap64 ((wrap64 ((wrap64 ((Int.tmod (wrap64 (Int.tdiv t193 x14_2)) 2) + (Int.tmod (wrap64 (Int.tdiv t194 x14_2)) 2))) - (wrap64 ((Int.tmod (wrap64 (Int.tdiv t193 x14_2)) 2) * (Int.tmod (wrap64 (Int.tdiv t194 x14_2)) 2))))) * x14_2)))) (wrap64 (x14_2 * 2)) (wrap64 (x15_2 + 1))))) = some (r1, r2) := H
              have A7 := Aside0.mk A70
              clear A70
              by_cases c8 : x14_2 = 0
              · rw [if_pos c8] at H
                exact absurd H (by simp)
              · rw [if_neg c8] at H
                have c8b0 : (x14_2 == 0) = false := beq_eq_false_iff_ne.mpr c8
                have c8b1 : (x14_2 != 0) = true := bne_iff_ne.mpr c8
                replace H := Option.bind_eq_some_iff.mp H
                obtain ⟨t194, A90, H⟩ := H
                replace H : (brazierref01_Bin.l1 k2 a0 a1 a2 (wrap64 (a1)) (wrap64 (a2)) x10_1 (wrap64 (x12_2 + (wrap64 ((wrap64 ((Int.tmod (wrap64 (Int.tdiv t193 x14_2)) 2) * (Int.tmod (wrap64 (Int.tdiv t194 x14_2)) 2))) * x14_2)))) (wrap64 (x13_2 + (wrap64 ((wrap64 ((wrap64 ((Int.tmod (wrap64 (Int.tdiv t193 x14_2)) 2) + (Int.tmod (wrap64 (Int.tdiv t194 x14_2)) 2))) - (wrap64 ((Int.tmod (wrap64 (Int.tdiv t193 x14_2)) 2) * (Int.tmod (wrap64 (Int.tdiv t194 x14_2)) 2))))) * x14_2)))) (wrap64 (x14_2 * 2)) (wrap64 (x15_2 + 1))) = some (r1, r2) := H
                have A9 := Aside0.mk A90
                clear A90
                have H' := Aside0.mk H
                clear H
                go_wp2_with (first | (go_at_call 49; (with_reducible refine (brazierref01_bits.calls a1 t193 _ A7.out).mono ?_); rintro e w' ⟨rfl, ⟨nd, rfl⟩⟩; (try first | exact ⟨rfl, _, World.drewN_drewN _ _ _⟩ | exact ⟨rfl, _, Eq.trans (World.drewN_drewN _ _ _) (congrArg (World.drewN _) (Nat.add_assoc _ _ _))⟩)) | (go_at_call 49; (with_reducible refine (brazierref01_bits.calls a2 t194 _ A9.out).mono ?_); rintro e w' ⟨rfl, ⟨nd, rfl⟩⟩; (try first | exact ⟨rfl, _, World.drewN_drewN _ _ _⟩ | exact ⟨rfl, _, Eq.trans (World.drewN_drewN _ _ _) (congrArg (World.drewN _) (Nat.add_assoc _ _ _))⟩)))
                repeat (go_quiet (first | (go_at_call 49; (with_reducible refine (brazierref01_bits.calls a1 t193 _ A7.out).mono ?_); rintro e w' ⟨rfl, ⟨nd, rfl⟩⟩; (try first | exact ⟨rfl, _, World.drewN_drewN _ _ _⟩ | exact ⟨rfl, _, Eq.trans (World.drewN_drewN _ _ _) (congrArg (World.drewN _) (Nat.add_assoc _ _ _))⟩)) | (go_at_call 49; (with_reducible refine (brazierref01_bits.calls a2 t194 _ A9.out).mono ?_); rintro e w' ⟨rfl, ⟨nd, rfl⟩⟩; (try first | exact ⟨rfl, _, World.drewN_drewN _ _ _⟩ | exact ⟨rfl, _, Eq.trans (World.drewN_drewN _ _ _) (congrArg (World.drewN _) (Nat.add_assoc _ _ _))⟩))); try go_wp2_with (first | (go_at_call 49; (with_reducible refine (brazierref01_bits.calls a1 t193 _ A7.out).mono ?_); rintro e w' ⟨rfl, ⟨nd, rfl⟩⟩; (try first | exact ⟨rfl, _, World.drewN_drewN _ _ _⟩ | exact ⟨rfl, _, Eq.trans (World.drewN_drewN _ _ _) (congrArg (World.drewN _) (Nat.add_assoc _ _ _))⟩)) | (go_at_call 49; (with_reducible refine (brazierref01_bits.calls a2 t194 _ A9.out).mono ?_); rintro e w' ⟨rfl, ⟨nd, rfl⟩⟩; (try first | exact ⟨rfl, _, World.drewN_drewN _ _ _⟩ | exact ⟨rfl, _, Eq.trans (World.drewN_drewN _ _ _) (congrArg (World.drewN _) (Nat.add_assoc _ _ _))⟩))))
                go_roundg k2
                case measure => have := HK1.out; have := HK2.out; omega
                case rel => exact ⟨(wrap64 (x12_2 + (wrap64 ((wrap64 ((Int.tmod (wrap64 (Int.tdiv t193 x14_2)) 2) * (Int.tmod (wrap64 (Int.tdiv t194 x14_2)) 2))) * x14_2)))), (wrap64 (x13_2 + (wrap64 ((wrap64 ((wrap64 ((Int.tmod (wrap64 (Int.tdiv t193 x14_2)) 2) + (Int.tmod (wrap64 (Int.tdiv t194 x14_2)) 2))) - (wrap64 ((Int.tmod (wrap64 (Int.tdiv t193 x14_2)) 2) * (Int.tmod (wrap64 (Int.tdiv t194 x14_2)) 2))))) * x14_2)))), (wrap64 (x14_2 * 2)), (wrap64 (x15_2 + 1)), (by first | rfl | (simp; done) | (simp [*]; done)), (by first | rfl | (simp; done) | (simp [*]; done)), (by first | rfl | (simp; done) | (simp [*]; done)), (by first | rfl | (simp; done) | (simp [*]; done)), H', ⟨by have := HK1.out; have := HK2.out; omega⟩, by repeat (first | exact Drawn0.refl _ | apply Drawn0.step)⟩
            · rw [if_neg c6] at H
              have c6b0 : decide (x15_2 < 32) = false := decide_eq_false c6
              clear c6
              by_cases c10 : a0 = 1
              · rw [if_pos c10] at H
                have c10b0 : (a0 == 1) = true := beq_iff_eq.mpr c10
                have c10b1 : (a0 != 1) = false := bne_eq_false_iff_eq.mpr c10
                clear c10
                replace H := Option.bind_eq_some_iff.mp H
                obtain ⟨t195, A110, H⟩ := H
                replace H : (some (t195, true)) = some (r1, r2) := H
                have A11 := Aside0.mk A110
                clear A110
                simp only [Option.some.injEq, Prod.mk.injEq] at H
                obtain ⟨rfl, rfl⟩ := H
                go_wp2_with (first | (go_at_call 47; (with_reducible refine (brazierref01_Round.calls (wrap64 ((wrap64 (a1)) + (wrap64 (a2)))) t195 _ A11.out).mono ?_); rintro e w' ⟨rfl, ⟨nd, rfl⟩⟩; (try first | exact ⟨rfl, _, World.drewN_drewN _ _ _⟩ | exact ⟨rfl, _, Eq.trans (World.drewN_drewN _ _ _) (congrArg (World.drewN _) (Nat.add_assoc _ _ _))⟩)))
                repeat (go_quiet (first | (go_at_call 47; (with_reducible refine (brazierref01_Round.calls (wrap64 ((wrap64 (a1)) + (wrap64 (a2)))) t195 _ A11.out).mono ?_); rintro e w' ⟨rfl, ⟨nd, rfl⟩⟩; (try first | exact ⟨rfl, _, World.drewN_drewN _ _ _⟩ | exact ⟨rfl, _, Eq.trans (World.drewN_drewN _ _ _) (congrArg (World.drewN _) (Nat.add_assoc _ _ _))⟩))); try go_wp2_with (first | (go_at_call 47; (with_reducible refine (brazierref01_Round.calls (wrap64 ((wrap64 (a1)) + (wrap64 (a2)))) t195 _ A11.out).mono ?_); rintro e w' ⟨rfl, ⟨nd, rfl⟩⟩; (try first | exact ⟨rfl, _, World.drewN_drewN _ _ _⟩ | exact ⟨rfl, _, Eq.trans (World.drewN_drewN _ _ _) (congrArg (World.drewN _) (Nat.add_assoc _ _ _))⟩))))
                go_ret2
                exact ⟨by first | rfl | (simp; done) | (simp [*]; done), by repeat (first | exact Drawn0.refl _ | apply Drawn0.step)⟩
              · rw [if_neg c10] at H
                have c10b0 : (a0 == 1) = false := beq_eq_false_iff_ne.mpr c10
                have c10b1 : (a0 != 1) = true := bne_iff_ne.mpr c10
                by_cases c12 : a0 = 2
                · rw [if_pos c12] at H
                  have c12b0 : (a0 == 2) = true := beq_iff_eq.mpr c12
                  have c12b1 : (a0 != 2) = false := bne_eq_false_iff_eq.mpr c12
                  clear c12
                  replace H := Option.bind_eq_some_iff.mp H
                  obtain ⟨t196, A130, H⟩ := H
                  replace H : (some (t196, true)) = some (r1, r2) := H
                  have A13 := Aside0.mk A130
                  clear A130
                  simp only [Option.some.injEq, Prod.mk.injEq] at H
                  obtain ⟨rfl, rfl⟩ := H
                  go_wp2_with (first | (go_at_call 47; (with_reducible refine (brazierref01_Round.calls (wrap64 ((wrap64 (a1)) - (wrap64 (a2)))) t196 _ A13.out).mono ?_); rintro e w' ⟨rfl, ⟨nd, rfl⟩⟩; (try first | exact ⟨rfl, _, World.drewN_drewN _ _ _⟩ | exact ⟨rfl, _, Eq.trans (World.drewN_drewN _ _ _) (congrArg (World.drewN _) (Nat.add_assoc _ _ _))⟩)))
                  repeat (go_quiet (first | (go_at_call 47; (with_reducible refine (brazierref01_Round.calls (wrap64 ((wrap64 (a1)) - (wrap64 (a2)))) t196 _ A13.out).mono ?_); rintro e w' ⟨rfl, ⟨nd, rfl⟩⟩; (try first | exact ⟨rfl, _, World.drewN_drewN _ _ _⟩ | exact ⟨rfl, _, Eq.trans (World.drewN_drewN _ _ _) (congrArg (World.drewN _) (Nat.add_assoc _ _ _))⟩))); try go_wp2_with (first | (go_at_call 47; (with_reducible refine (brazierref01_Round.calls (wrap64 ((wrap64 (a1)) - (wrap64 (a2)))) t196 _ A13.out).mono ?_); rintro e w' ⟨rfl, ⟨nd, rfl⟩⟩; (try first | exact ⟨rfl, _, World.drewN_drewN _ _ _⟩ | exact ⟨rfl, _, Eq.trans (World.drewN_drewN _ _ _) (congrArg (World.drewN _) (Nat.add_assoc _ _ _))⟩))))
                  go_ret2
                  exact ⟨by first | rfl | (simp; done) | (simp [*]; done), by repeat (first | exact Drawn0.refl _ | apply Drawn0.step)⟩
                · rw [if_neg c12] at H
                  have c12b0 : (a0 == 2) = false := beq_eq_false_iff_ne.mpr c12
                  have c12b1 : (a0 != 2) = true := bne_iff_ne.mpr c12
                  by_cases c14 : a0 = 3
                  · rw [if_pos c14] at H
                    have c14b0 : (a0 == 3) = true := beq_iff_eq.mpr c14
                    have c14b1 : (a0 != 3) = false := bne_eq_false_iff_eq.mpr c14
                    clear c14
                    replace H := Option.bind_eq_some_iff.mp H
                    obtain ⟨t197, A150, H⟩ := H
                    replace H : (some (t197, true)) = some (r1, r2) := H
                    have A15 := Aside0.mk A150
                    clear A150
                    simp only [Option.some.injEq, Prod.mk.injEq] at H
                    obtain ⟨rfl, rfl⟩ := H
                    go_wp2_with (first | (go_at_call 47; (with_reducible refine (brazierref01_Round.calls (wrap64 ((wrap64 (a1)) * (wrap64 (a2)))) t197 _ A15.out).mono ?_); rintro e w' ⟨rfl, ⟨nd, rfl⟩⟩; (try first | exact ⟨rfl, _, World.drewN_drewN _ _ _⟩ | exact ⟨rfl, _, Eq.trans (World.drewN_drewN _ _ _) (congrArg (World.drewN _) (Nat.add_assoc _ _ _))⟩)))
                    repeat (go_quiet (first | (go_at_call 47; (with_reducible refine (brazierref01_Round.calls (wrap64 ((wrap64 (a1)) * (wrap64 (a2)))) t197 _ A15.out).mono ?_); rintro e w' ⟨rfl, ⟨nd, rfl⟩⟩; (try first | exact ⟨rfl, _, World.drewN_drewN _ _ _⟩ | exact ⟨rfl, _, Eq.trans (World.drewN_drewN _ _ _) (congrArg (World.drewN _) (Nat.add_assoc _ _ _))⟩))); try go_wp2_with (first | (go_at_call 47; (with_reducible refine (brazierref01_Round.calls (wrap64 ((wrap64 (a1)) * (wrap64 (a2)))) t197 _ A15.out).mono ?_); rintro e w' ⟨rfl, ⟨nd, rfl⟩⟩; (try first | exact ⟨rfl, _, World.drewN_drewN _ _ _⟩ | exact ⟨rfl, _, Eq.trans (World.drewN_drewN _ _ _) (congrArg (World.drewN _) (Nat.add_assoc _ _ _))⟩))))
                    go_ret2
                    exact ⟨by first | rfl | (simp; done) | (simp [*]; done), by repeat (first | exact Drawn0.refl _ | apply Drawn0.step)⟩
                  · rw [if_neg c14] at H
                    have c14b0 : (a0 == 3) = false := beq_eq_false_iff_ne.mpr c14
                    have c14b1 : (a0 != 3) = true := bne_iff_ne.mpr c14
                    by_cases c16 : a0 = 4
                    · rw [if_pos c16] at H
                      have c16b0 : (a0 == 4) = true := beq_iff_eq.mpr c16
                      have c16b1 : (a0 != 4) = false := bne_eq_false_iff_eq.mpr c16
                      clear c16
                      by_cases c17 : (wrap64 (a2)) = 0
                      · rw [if_pos c17] at H
                        have c17b0 : ((wrap64 (a2)) == 0) = true := beq_iff_eq.mpr c17
                        have c17b1 : ((wrap64 (a2)) != 0) = false := bne_eq_false_iff_eq.mpr c17
                        clear c17
                        simp only [Option.some.injEq, Prod.mk.injEq] at H
                        obtain ⟨rfl, rfl⟩ := H
                        go_wp2
                        repeat (go_quiet (fail); try go_wp2)
                        go_ret2
                        exact ⟨by first | rfl | (simp; done) | (simp [*]; done), by repeat (first | exact Drawn0.refl _ | apply Drawn0.step)⟩
                      · rw [if_neg c17] at H
                        have c17b0 : ((wrap64 (a2)) == 0) = false := beq_eq_false_iff_ne.mpr c17
                        have c17b1 : ((wrap64 (a2)) != 0) = true := bne_iff_ne.mpr c17
                        replace H := Option.bind_eq_some_iff.mp H
                        obtain ⟨t198, A180, H⟩ := H
                        replace H : (some (t198, true)) = some (r1, r2) := H
                        have A18 := Aside0.mk A180
                        clear A180
                        simp only [Option.some.injEq, Prod.mk.injEq] at H
                        obtain ⟨rfl, rfl⟩ := H
                        go_wp2_with (first | (go_at_call 47; (with_reducible refine (brazierref01_Round.calls (wrap64 (Int.tdiv (wrap64 (a1)) (wrap64 (a2)))) t198 _ A18.out).mono ?_); rintro e w' ⟨rfl, ⟨nd, rfl⟩⟩; (try first | exact ⟨rfl, _, World.drewN_drewN _ _ _⟩ | exact ⟨rfl, _, Eq.trans (World.drewN_drewN _ _ _) (congrArg (World.drewN _) (Nat.add_assoc _ _ _))⟩)))
                        repeat (go_quiet (first | (go_at_call 47; (with_reducible refine (brazierref01_Round.calls (wrap64 (Int.tdiv (wrap64 (a1)) (wrap64 (a2)))) t198 _ A18.out).mono ?_); rintro e w' ⟨rfl, ⟨nd, rfl⟩⟩; (try first | exact ⟨rfl, _, World.drewN_drewN _ _ _⟩ | exact ⟨rfl, _, Eq.trans (World.drewN_drewN _ _ _) (congrArg (World.drewN _) (Nat.add_assoc _ _ _))⟩))); try go_wp2_with (first | (go_at_call 47; (with_reducible refine (brazierref01_Round.calls (wrap64 (Int.tdiv (wrap64 (a1)) (wrap64 (a2)))) t198 _ A18.out).mono ?_); rintro e w' ⟨rfl, ⟨nd, rfl⟩⟩; (try first | exact ⟨rfl, _, World.drewN_drewN _ _ _⟩ | exact ⟨rfl, _, Eq.trans (World.drewN_drewN _ _ _) (congrArg (World.drewN _) (Nat.add_assoc _ _ _))⟩))))
                        go_ret2
                        exact ⟨by first | rfl | (simp; done) | (simp [*]; done), by repeat (first | exact Drawn0.refl _ | apply Drawn0.step)⟩
                    · rw [if_neg c16] at H
                      have c16b0 : (a0 == 4) = false := beq_eq_false_iff_ne.mpr c16
                      have c16b1 : (a0 != 4) = true := bne_iff_ne.mpr c16
                      by_cases c19 : a0 = 5
                      · rw [if_pos c19] at H
                        have c19b0 : (a0 == 5) = true := beq_iff_eq.mpr c19
                        have c19b1 : (a0 != 5) = false := bne_eq_false_iff_eq.mpr c19
                        clear c19
                        by_cases c20 : (wrap64 (a2)) = 0
                        · rw [if_pos c20] at H
                          have c20b0 : ((wrap64 (a2)) == 0) = true := beq_iff_eq.mpr c20
                          have c20b1 : ((wrap64 (a2)) != 0) = false := bne_eq_false_iff_eq.mpr c20
                          clear c20
                          simp only [Option.some.injEq, Prod.mk.injEq] at H
                          obtain ⟨rfl, rfl⟩ := H
                          go_wp2
                          repeat (go_quiet (fail); try go_wp2)
                          go_ret2
                          exact ⟨by first | rfl | (simp; done) | (simp [*]; done), by repeat (first | exact Drawn0.refl _ | apply Drawn0.step)⟩
                        · rw [if_neg c20] at H
                          have c20b0 : ((wrap64 (a2)) == 0) = false := beq_eq_false_iff_ne.mpr c20
                          have c20b1 : ((wrap64 (a2)) != 0) = true := bne_iff_ne.mpr c20
                          replace H := Option.bind_eq_some_iff.mp H
                          obtain ⟨t199, A210, H⟩ := H
                          replace H : (some (t199, true)) = some (r1, r2) := H
                          have A21 := Aside0.mk A210
                          clear A210
                          simp only [Option.some.injEq, Prod.mk.injEq] at H
                          obtain ⟨rfl, rfl⟩ := H
                          go_wp2_with (first | (go_at_call 47; (with_reducible refine (brazierref01_Round.calls (wrap64 ((wrap64 (a1)) - (wrap64 ((wrap64 (Int.tdiv (wrap64 (a1)) (wrap64 (a2)))) * (wrap64 (a2)))))) t199 _ A21.out).mono ?_); rintro e w' ⟨rfl, ⟨nd, rfl⟩⟩; (try first | exact ⟨rfl, _, World.drewN_drewN _ _ _⟩ | exact ⟨rfl, _, Eq.trans (World.drewN_drewN _ _ _) (congrArg (World.drewN _) (Nat.add_assoc _ _ _))⟩)))
                          repeat (go_quiet (first | (go_at_call 47; (with_reducible refine (brazierref01_Round.calls (wrap64 ((wrap64 (a1)) - (wrap64 ((wrap64 (Int.tdiv (wrap64 (a1)) (wrap64 (a2)))) * (wrap64 (a2)))))) t199 _ A21.out).mono ?_); rintro e w' ⟨rfl, ⟨nd, rfl⟩⟩; (try first | exact ⟨rfl, _, World.drewN_drewN _ _ _⟩ | exact ⟨rfl, _, Eq.trans (World.drewN_drewN _ _ _) (congrArg (World.drewN _) (Nat.add_assoc _ _ _))⟩))); try go_wp2_with (first | (go_at_call 47; (with_reducible refine (brazierref01_Round.calls (wrap64 ((wrap64 (a1)) - (wrap64 ((wrap64 (Int.tdiv (wrap64 (a1)) (wrap64 (a2)))) * (wrap64 (a2)))))) t199 _ A21.out).mono ?_); rintro e w' ⟨rfl, ⟨nd, rfl⟩⟩; (try first | exact ⟨rfl, _, World.drewN_drewN _ _ _⟩ | exact ⟨rfl, _, Eq.trans (World.drewN_drewN _ _ _) (congrArg (World.drewN _) (Nat.add_assoc _ _ _))⟩))))
                          go_ret2
                          exact ⟨by first | rfl | (simp; done) | (simp [*]; done), by repeat (first | exact Drawn0.refl _ | apply Drawn0.step)⟩
                      · rw [if_neg c19] at H
                        have c19b0 : (a0 == 5) = false := beq_eq_false_iff_ne.mpr c19
                        have c19b1 : (a0 != 5) = true := bne_iff_ne.mpr c19
                        by_cases c22 : a0 = 6
                        · rw [if_pos c22] at H
                          have c22b0 : (a0 == 6) = true := beq_iff_eq.mpr c22
                          have c22b1 : (a0 != 6) = false := bne_eq_false_iff_eq.mpr c22
                          clear c22
                          replace H := Option.bind_eq_some_iff.mp H
                          obtain ⟨t200, A230, H⟩ := H
                          replace H : (some (t200, true)) = some (r1, r2) := H
                          have A23 := Aside0.mk A230
                          clear A230
                          simp only [Option.some.injEq, Prod.mk.injEq] at H
                          obtain ⟨rfl, rfl⟩ := H
                          go_wp2_with (first | (go_at_call 47; (with_reducible refine (brazierref01_Round.calls (wrap64 ((wrap64 (a1)) * x10_1)) t200 _ A23.out).mono ?_); rintro e w' ⟨rfl, ⟨nd, rfl⟩⟩; (try first | exact ⟨rfl, _, World.drewN_drewN _ _ _⟩ | exact ⟨rfl, _, Eq.trans (World.drewN_drewN _ _ _) (congrArg (World.drewN _) (Nat.add_assoc _ _ _))⟩)))
                          repeat (go_quiet (first | (go_at_call 47; (with_reducible refine (brazierref01_Round.calls (wrap64 ((wrap64 (a1)) * x10_1)) t200 _ A23.out).mono ?_); rintro e w' ⟨rfl, ⟨nd, rfl⟩⟩; (try first | exact ⟨rfl, _, World.drewN_drewN _ _ _⟩ | exact ⟨rfl, _, Eq.trans (World.drewN_drewN _ _ _) (congrArg (World.drewN _) (Nat.add_assoc _ _ _))⟩))); try go_wp2_with (first | (go_at_call 47; (with_reducible refine (brazierref01_Round.calls (wrap64 ((wrap64 (a1)) * x10_1)) t200 _ A23.out).mono ?_); rintro e w' ⟨rfl, ⟨nd, rfl⟩⟩; (try first | exact ⟨rfl, _, World.drewN_drewN _ _ _⟩ | exact ⟨rfl, _, Eq.trans (World.drewN_drewN _ _ _) (congrArg (World.drewN _) (Nat.add_assoc _ _ _))⟩))))
                          go_ret2
                          exact ⟨by first | rfl | (simp; done) | (simp [*]; done), by repeat (first | exact Drawn0.refl _ | apply Drawn0.step)⟩
                        · rw [if_neg c22] at H
                          have c22b0 : (a0 == 6) = false := beq_eq_false_iff_ne.mpr c22
                          have c22b1 : (a0 != 6) = true := bne_iff_ne.mpr c22
                          by_cases c24 : a0 = 7
                          · rw [if_pos c24] at H
                            have c24b0 : (a0 == 7) = true := beq_iff_eq.mpr c24
                            have c24b1 : (a0 != 7) = false := bne_eq_false_iff_eq.mpr c24
                            clear c24
                            replace H := Option.bind_eq_some_iff.mp H
                            obtain ⟨t201, A250, H⟩ := H
                            replace H : ((brazierref01_Round.f t201).bind fun t202 => (some (t202, true))) = some (r1, r2) := H
                            have A25 := Aside0.mk A250
                            clear A250
                            replace H := Option.bind_eq_some_iff.mp H
                            obtain ⟨t202, A260, H⟩ := H
                            replace H : (some (t202, true)) = some (r1, r2) := H
                            have A26 := Aside0.mk A260
                            clear A260
                            simp only [Option.some.injEq, Prod.mk.injEq] at H
                            obtain ⟨rfl, rfl⟩ := H
                            go_wp2_with (first | (go_at_call 50; (with_reducible refine (brazierref01_floor.calls (wrap64 (a1)) x10_1 t201 _ A25.out).mono ?_); rintro e w' ⟨rfl, ⟨nd, rfl⟩⟩; (try first | exact ⟨rfl, _, World.drewN_drewN _ _ _⟩ | exact ⟨rfl, _, Eq.trans (World.drewN_drewN _ _ _) (congrArg (World.drewN _) (Nat.add_assoc _ _ _))⟩)) | (go_at_call 47; (with_reducible refine (brazierref01_Round.calls t201 t202 _ A26.out).mono ?_); rintro e w' ⟨rfl, ⟨nd, rfl⟩⟩; (try first | exact ⟨rfl, _, World.drewN_drewN _ _ _⟩ | exact ⟨rfl, _, Eq.trans (World.drewN_drewN _ _ _) (congrArg (World.drewN _) (Nat.add_assoc _ _ _))⟩)))
                            repeat (go_quiet (first | (go_at_call 50; (with_reducible refine (brazierref01_floor.calls (wrap64 (a1)) x10_1 t201 _ A25.out).mono ?_); rintro e w' ⟨rfl, ⟨nd, rfl⟩⟩; (try first | exact ⟨rfl, _, World.drewN_drewN _ _ _⟩ | exact ⟨rfl, _, Eq.trans (World.drewN_drewN _ _ _) (congrArg (World.drewN _) (Nat.add_assoc _ _ _))⟩)) | (go_at_call 47; (with_reducible refine (brazierref01_Round.calls t201 t202 _ A26.out).mono ?_); rintro e w' ⟨rfl, ⟨nd, rfl⟩⟩; (try first | exact ⟨rfl, _, World.drewN_drewN _ _ _⟩ | exact ⟨rfl, _, Eq.trans (World.drewN_drewN _ _ _) (congrArg (World.drewN _) (Nat.add_assoc _ _ _))⟩))); try go_wp2_with (first | (go_at_call 50; (with_reducible refine (brazierref01_floor.calls (wrap64 (a1)) x10_1 t201 _ A25.out).mono ?_); rintro e w' ⟨rfl, ⟨nd, rfl⟩⟩; (try first | exact ⟨rfl, _, World.drewN_drewN _ _ _⟩ | exact ⟨rfl, _, Eq.trans (World.drewN_drewN _ _ _) (congrArg (World.drewN _) (Nat.add_assoc _ _ _))⟩)) | (go_at_call 47; (with_reducible refine (brazierref01_Round.calls t201 t202 _ A26.out).mono ?_); rintro e w' ⟨rfl, ⟨nd, rfl⟩⟩; (try first | exact ⟨rfl, _, World.drewN_drewN _ _ _⟩ | exact ⟨rfl, _, Eq.trans (World.drewN_drewN _ _ _) (congrArg (World.drewN _) (Nat.add_assoc _ _ _))⟩))))
                            go_ret2
                            exact ⟨by first | rfl | (simp; done) | (simp [*]; done), by repeat (first | exact Drawn0.refl _ | apply Drawn0.step)⟩
                          · rw [if_neg c24] at H
                            have c24b0 : (a0 == 7) = false := beq_eq_false_iff_ne.mpr c24
                            have c24b1 : (a0 != 7) = true := bne_iff_ne.mpr c24
                            by_cases c27 : a0 = 8
                            · rw [if_pos c27] at H
                              have c27b0 : (a0 == 8) = true := beq_iff_eq.mpr c27
                              have c27b1 : (a0 != 8) = false := bne_eq_false_iff_eq.mpr c27
                              clear c27
                              replace H := Option.bind_eq_some_iff.mp H
                              obtain ⟨t203, A280, H⟩ := H
                              replace H : (some (t203, true)) = some (r1, r2) := H
                              have A28 := Aside0.mk A280
                              clear A280
                              simp only [Option.some.injEq, Prod.mk.injEq] at H
                              obtain ⟨rfl, rfl⟩ := H
                              go_wp2_with (first | (go_at_call 47; (with_reducible refine (brazierref01_Round.calls x12_2 t203 _ A28.out).mono ?_); rintro e w' ⟨rfl, ⟨nd, rfl⟩⟩; (try first | exact ⟨rfl, _, World.drewN_drewN _ _ _⟩ | exact ⟨rfl, _, Eq.trans (World.drewN_drewN _ _ _) (congrArg (World.drewN _) (Nat.add_assoc _ _ _))⟩)))
                              repeat (go_quiet (first | (go_at_call 47; (with_reducible refine (brazierref01_Round.calls x12_2 t203 _ A28.out).mono ?_); rintro e w' ⟨rfl, ⟨nd, rfl⟩⟩; (try first | exact ⟨rfl, _, World.drewN_drewN _ _ _⟩ | exact ⟨rfl, _, Eq.trans (World.drewN_drewN _ _ _) (congrArg (World.drewN _) (Nat.add_assoc _ _ _))⟩))); try go_wp2_with (first | (go_at_call 47; (with_reducible refine (brazierref01_Round.calls x12_2 t203 _ A28.out).mono ?_); rintro e w' ⟨rfl, ⟨nd, rfl⟩⟩; (try first | exact ⟨rfl, _, World.drewN_drewN _ _ _⟩ | exact ⟨rfl, _, Eq.trans (World.drewN_drewN _ _ _) (congrArg (World.drewN _) (Nat.add_assoc _ _ _))⟩))))
                              go_ret2
                              exact ⟨by first | rfl | (simp; done) | (simp [*]; done), by repeat (first | exact Drawn0.refl _ | apply Drawn0.step)⟩
                            · rw [if_neg c27] at H
                              have c27b0 : (a0 == 8) = false := beq_eq_false_iff_ne.mpr c27
                              have c27b1 : (a0 != 8) = true := bne_iff_ne.mpr c27
                              by_cases c29 : a0 = 9
                              · rw [if_pos c29] at H
                                have c29b0 : (a0 == 9) = true := beq_iff_eq.mpr c29
                                have c29b1 : (a0 != 9) = false := bne_eq_false_iff_eq.mpr c29
                                clear c29
                                replace H := Option.bind_eq_some_iff.mp H
                                obtain ⟨t204, A300, H⟩ := H
                                replace H : (some (t204, true)) = some (r1, r2) := H
                                have A30 := Aside0.mk A300
                                clear A300
                                simp only [Option.some.injEq, Prod.mk.injEq] at H
                                obtain ⟨rfl, rfl⟩ := H
                                go_wp2_with (first | (go_at_call 47; (with_reducible refine (brazierref01_Round.calls x13_2 t204 _ A30.out).mono ?_); rintro e w' ⟨rfl, ⟨nd, rfl⟩⟩; (try first | exact ⟨rfl, _, World.drewN_drewN _ _ _⟩ | exact ⟨rfl, _, Eq.trans (World.drewN_drewN _ _ _) (congrArg (World.drewN _) (Nat.add_assoc _ _ _))⟩)))
                                repeat (go_quiet (first | (go_at_call 47; (with_reducible refine (brazierref01_Round.calls x13_2 t204 _ A30.out).mono ?_); rintro e w' ⟨rfl, ⟨nd, rfl⟩⟩; (try first | exact ⟨rfl, _, World.drewN_drewN _ _ _⟩ | exact ⟨rfl, _, Eq.trans (World.drewN_drewN _ _ _) (congrArg (World.drewN _) (Nat.add_assoc _ _ _))⟩))); try go_wp2_with (first | (go_at_call 47; (with_reducible refine (brazierref01_Round.calls x13_2 t204 _ A30.out).mono ?_); rintro e w' ⟨rfl, ⟨nd, rfl⟩⟩; (try first | exact ⟨rfl, _, World.drewN_drewN _ _ _⟩ | exact ⟨rfl, _, Eq.trans (World.drewN_drewN _ _ _) (congrArg (World.drewN _) (Nat.add_assoc _ _ _))⟩))))
                                go_ret2
                                exact ⟨by first | rfl | (simp; done) | (simp [*]; done), by repeat (first | exact Drawn0.refl _ | apply Drawn0.step)⟩
                              · rw [if_neg c29] at H
                                have c29b0 : (a0 == 9) = false := beq_eq_false_iff_ne.mpr c29
                                have c29b1 : (a0 != 9) = true := bne_iff_ne.mpr c29
                                by_cases c31 : a0 = 10
                                · rw [if_pos c31] at H
                                  have c31b0 : (a0 == 10) = true := beq_iff_eq.mpr c31
                                  have c31b1 : (a0 != 10) = false := bne_eq_false_iff_eq.mpr c31
                                  clear c31
                                  replace H := Option.bind_eq_some_iff.mp H
                                  obtain ⟨t205, A320, H⟩ := H
                                  replace H : (some (t205, true)) = some (r1, r2) := H
                                  have A32 := Aside0.mk A320
                                  clear A320
                                  simp only [Option.some.injEq, Prod.mk.injEq] at H
                                  obtain ⟨rfl, rfl⟩ := H
                                  go_wp2_with (first | (go_at_call 47; (with_reducible refine (brazierref01_Round.calls (wrap64 (x13_2 - x12_2)) t205 _ A32.out).mono ?_); rintro e w' ⟨rfl, ⟨nd, rfl⟩⟩; (try first | exact ⟨rfl, _, World.drewN_drewN _ _ _⟩ | exact ⟨rfl, _, Eq.trans (World.drewN_drewN _ _ _) (congrArg (World.drewN _) (Nat.add_assoc _ _ _))⟩)))
                                  repeat (go_quiet (first | (go_at_call 47; (with_reducible refine (brazierref01_Round.calls (wrap64 (x13_2 - x12_2)) t205 _ A32.out).mono ?_); rintro e w' ⟨rfl, ⟨nd, rfl⟩⟩; (try first | exact ⟨rfl, _, World.drewN_drewN _ _ _⟩ | exact ⟨rfl, _, Eq.trans (World.drewN_drewN _ _ _) (congrArg (World.drewN _) (Nat.add_assoc _ _ _))⟩))); try go_wp2_with (first | (go_at_call 47; (with_reducible refine (brazierref01_Round.calls (wrap64 (x13_2 - x12_2)) t205 _ A32.out).mono ?_); rintro e w' ⟨rfl, ⟨nd, rfl⟩⟩; (try first | exact ⟨rfl, _, World.drewN_drewN _ _ _⟩ | exact ⟨rfl, _, Eq.trans (World.drewN_drewN _ _ _) (congrArg (World.drewN _) (Nat.add_assoc _ _ _))⟩))))
                                  go_ret2
                                  exact ⟨by first | rfl | (simp; done) | (simp [*]; done), by repeat (first | exact Drawn0.refl _ | apply Drawn0.step)⟩
                                · rw [if_neg c31] at H
                                  have c31b0 : (a0 == 10) = false := beq_eq_false_iff_ne.mpr c31
                                  have c31b1 : (a0 != 10) = true := bne_iff_ne.mpr c31
                                  by_cases c33 : a0 = 11
                                  · rw [if_pos c33] at H
                                    have c33b0 : (a0 == 11) = true := beq_iff_eq.mpr c33
                                    have c33b1 : (a0 != 11) = false := bne_eq_false_iff_eq.mpr c33
                                    clear c33
                                    replace H := Option.bind_eq_some_iff.mp H
                                    obtain ⟨t206, A340, H⟩ := H
                                    replace H : (some (t206, true)) = some (r1, r2) := H
                                    have A34 := Aside0.mk A340
                                    clear A340
                                    simp only [Option.some.injEq, Prod.mk.injEq] at H
                                    obtain ⟨rfl, rfl⟩ := H
                                    go_wp2_with (first | (go_at_call 48; (with_reducible refine (brazierref01_truth.calls (decide ((wrap64 (a1)) < (wrap64 (a2)))) t206 _ A34.out).mono ?_); rintro e w' ⟨rfl, ⟨nd, rfl⟩⟩; (try first | exact ⟨rfl, _, World.drewN_drewN _ _ _⟩ | exact ⟨rfl, _, Eq.trans (World.drewN_drewN _ _ _) (congrArg (World.drewN _) (Nat.add_assoc _ _ _))⟩)))
                                    repeat (go_quiet (first | (go_at_call 48; (with_reducible refine (brazierref01_truth.calls (decide ((wrap64 (a1)) < (wrap64 (a2)))) t206 _ A34.out).mono ?_); rintro e w' ⟨rfl, ⟨nd, rfl⟩⟩; (try first | exact ⟨rfl, _, World.drewN_drewN _ _ _⟩ | exact ⟨rfl, _, Eq.trans (World.drewN_drewN _ _ _) (congrArg (World.drewN _) (Nat.add_assoc _ _ _))⟩))); try go_wp2_with (first | (go_at_call 48; (with_reducible refine (brazierref01_truth.calls (decide ((wrap64 (a1)) < (wrap64 (a2)))) t206 _ A34.out).mono ?_); rintro e w' ⟨rfl, ⟨nd, rfl⟩⟩; (try first | exact ⟨rfl, _, World.drewN_drewN _ _ _⟩ | exact ⟨rfl, _, Eq.trans (World.drewN_drewN _ _ _) (congrArg (World.drewN _) (Nat.add_assoc _ _ _))⟩))))
                                    go_ret2
                                    exact ⟨by first | rfl | (simp; done) | (simp [*]; done), by repeat (first | exact Drawn0.refl _ | apply Drawn0.step)⟩
                                  · rw [if_neg c33] at H
                                    have c33b0 : (a0 == 11) = false := beq_eq_false_iff_ne.mpr c33
                                    have c33b1 : (a0 != 11) = true := bne_iff_ne.mpr c33
                                    by_cases c35 : a0 = 12
                                    · rw [if_pos c35] at H
                                      have c35b0 : (a0 == 12) = true := beq_iff_eq.mpr c35
                                      have c35b1 : (a0 != 12) = false := bne_eq_false_iff_eq.mpr c35
                                      clear c35
                                      replace H := Option.bind_eq_some_iff.mp H
                                      obtain ⟨t207, A360, H⟩ := H
                                      replace H : (some (t207, true)) = some (r1, r2) := H
                                      have A36 := Aside0.mk A360
                                      clear A360
                                      simp only [Option.some.injEq, Prod.mk.injEq] at H
                                      obtain ⟨rfl, rfl⟩ := H
                                      go_wp2_with (first | (go_at_call 48; (with_reducible refine (brazierref01_truth.calls (decide ((wrap64 (a1)) ≤ (wrap64 (a2)))) t207 _ A36.out).mono ?_); rintro e w' ⟨rfl, ⟨nd, rfl⟩⟩; (try first | exact ⟨rfl, _, World.drewN_drewN _ _ _⟩ | exact ⟨rfl, _, Eq.trans (World.drewN_drewN _ _ _) (congrArg (World.drewN _) (Nat.add_assoc _ _ _))⟩)))
                                      repeat (go_quiet (first | (go_at_call 48; (with_reducible refine (brazierref01_truth.calls (decide ((wrap64 (a1)) ≤ (wrap64 (a2)))) t207 _ A36.out).mono ?_); rintro e w' ⟨rfl, ⟨nd, rfl⟩⟩; (try first | exact ⟨rfl, _, World.drewN_drewN _ _ _⟩ | exact ⟨rfl, _, Eq.trans (World.drewN_drewN _ _ _) (congrArg (World.drewN _) (Nat.add_assoc _ _ _))⟩))); try go_wp2_with (first | (go_at_call 48; (with_reducible refine (brazierref01_truth.calls (decide ((wrap64 (a1)) ≤ (wrap64 (a2)))) t207 _ A36.out).mono ?_); rintro e w' ⟨rfl, ⟨nd, rfl⟩⟩; (try first | exact ⟨rfl, _, World.drewN_drewN _ _ _⟩ | exact ⟨rfl, _, Eq.trans (World.drewN_drewN _ _ _) (congrArg (World.drewN _) (Nat.add_assoc _ _ _))⟩))))
                                      go_ret2
                                      exact ⟨by first | rfl | (simp; done) | (simp [*]; done), by repeat (first | exact Drawn0.refl _ | apply Drawn0.step)⟩
                                    · rw [if_neg c35] at H
                                      have c35b0 : (a0 == 12) = false := beq_eq_false_iff_ne.mpr c35
                                      have c35b1 : (a0 != 12) = true := bne_iff_ne.mpr c35
                                      by_cases c37 : a0 = 13
                                      · rw [if_pos c37] at H
                                        have c37b0 : (a0 == 13) = true := beq_iff_eq.mpr c37
                                        have c37b1 : (a0 != 13) = false := bne_eq_false_iff_eq.mpr c37
                                        clear c37
                                        replace H := Option.bind_eq_some_iff.mp H
                                        obtain ⟨t208, A380, H⟩ := H
                                        replace H : (some (t208, true)) = some (r1, r2) := H
                                        have A38 := Aside0.mk A380
                                        clear A380
                                        simp only [Option.some.injEq, Prod.mk.injEq] at H
                                        obtain ⟨rfl, rfl⟩ := H
                                        go_wp2_with (first | (go_at_call 48; (with_reducible refine (brazierref01_truth.calls (decide ((wrap64 (a1)) > (wrap64 (a2)))) t208 _ A38.out).mono ?_); rintro e w' ⟨rfl, ⟨nd, rfl⟩⟩; (try first | exact ⟨rfl, _, World.drewN_drewN _ _ _⟩ | exact ⟨rfl, _, Eq.trans (World.drewN_drewN _ _ _) (congrArg (World.drewN _) (Nat.add_assoc _ _ _))⟩)))
                                        repeat (go_quiet (first | (go_at_call 48; (with_reducible refine (brazierref01_truth.calls (decide ((wrap64 (a1)) > (wrap64 (a2)))) t208 _ A38.out).mono ?_); rintro e w' ⟨rfl, ⟨nd, rfl⟩⟩; (try first | exact ⟨rfl, _, World.drewN_drewN _ _ _⟩ | exact ⟨rfl, _, Eq.trans (World.drewN_drewN _ _ _) (congrArg (World.drewN _) (Nat.add_assoc _ _ _))⟩))); try go_wp2_with (first | (go_at_call 48; (with_reducible refine (brazierref01_truth.calls (decide ((wrap64 (a1)) > (wrap64 (a2)))) t208 _ A38.out).mono ?_); rintro e w' ⟨rfl, ⟨nd, rfl⟩⟩; (try first | exact ⟨rfl, _, World.drewN_drewN _ _ _⟩ | exact ⟨rfl, _, Eq.trans (World.drewN_drewN _ _ _) (congrArg (World.drewN _) (Nat.add_assoc _ _ _))⟩))))
                                        go_ret2
                                        exact ⟨by first | rfl | (simp; done) | (simp [*]; done), by repeat (first | exact Drawn0.refl _ | apply Drawn0.step)⟩
                                      · rw [if_neg c37] at H
                                        have c37b0 : (a0 == 13) = false := beq_eq_false_iff_ne.mpr c37
                                        have c37b1 : (a0 != 13) = true := bne_iff_ne.mpr c37
                                        by_cases c39 : a0 = 14
                                        · rw [if_pos c39] at H
                                          have c39b0 : (a0 == 14) = true := beq_iff_eq.mpr c39
                                          have c39b1 : (a0 != 14) = false := bne_eq_false_iff_eq.mpr c39
                                          clear c39
                                          replace H := Option.bind_eq_some_iff.mp H
                                          obtain ⟨t209, A400, H⟩ := H
                                          replace H : (some (t209, true)) = some (r1, r2) := H
                                          have A40 := Aside0.mk A400
                                          clear A400
                                          simp only [Option.some.injEq, Prod.mk.injEq] at H
                                          obtain ⟨rfl, rfl⟩ := H
                                          go_wp2_with (first | (go_at_call 48; (with_reducible refine (brazierref01_truth.calls (decide ((wrap64 (a1)) ≥ (wrap64 (a2)))) t209 _ A40.out).mono ?_); rintro e w' ⟨rfl, ⟨nd, rfl⟩⟩; (try first | exact ⟨rfl, _, World.drewN_drewN _ _ _⟩ | exact ⟨rfl, _, Eq.trans (World.drewN_drewN _ _ _) (congrArg (World.drewN _) (Nat.add_assoc _ _ _))⟩)))
                                          repeat (go_quiet (first | (go_at_call 48; (with_reducible refine (brazierref01_truth.calls (decide ((wrap64 (a1)) ≥ (wrap64 (a2)))) t209 _ A40.out).mono ?_); rintro e w' ⟨rfl, ⟨nd, rfl⟩⟩; (try first | exact ⟨rfl, _, World.drewN_drewN _ _ _⟩ | exact ⟨rfl, _, Eq.trans (World.drewN_drewN _ _ _) (congrArg (World.drewN _) (Nat.add_assoc _ _ _))⟩))); try go_wp2_with (first | (go_at_call 48; (with_reducible refine (brazierref01_truth.calls (decide ((wrap64 (a1)) ≥ (wrap64 (a2)))) t209 _ A40.out).mono ?_); rintro e w' ⟨rfl, ⟨nd, rfl⟩⟩; (try first | exact ⟨rfl, _, World.drewN_drewN _ _ _⟩ | exact ⟨rfl, _, Eq.trans (World.drewN_drewN _ _ _) (congrArg (World.drewN _) (Nat.add_assoc _ _ _))⟩))))
                                          go_ret2
                                          exact ⟨by first | rfl | (simp; done) | (simp [*]; done), by repeat (first | exact Drawn0.refl _ | apply Drawn0.step)⟩
                                        · rw [if_neg c39] at H
                                          have c39b0 : (a0 == 14) = false := beq_eq_false_iff_ne.mpr c39
                                          have c39b1 : (a0 != 14) = true := bne_iff_ne.mpr c39
                                          by_cases c41 : a0 = 15
                                          · rw [if_pos c41] at H
                                            have c41b0 : (a0 == 15) = true := beq_iff_eq.mpr c41
                                            have c41b1 : (a0 != 15) = false := bne_eq_false_iff_eq.mpr c41
                                            clear c41
                                            replace H := Option.bind_eq_some_iff.mp H
                                            obtain ⟨t210, A420, H⟩ := H
                                            replace H : (some (t210, true)) = some (r1, r2) := H
                                            have A42 := Aside0.mk A420
                                            clear A420
                                            simp only [Option.some.injEq, Prod.mk.injEq] at H
                                            obtain ⟨rfl, rfl⟩ := H
                                            go_wp2_with (first | (go_at_call 48; (with_reducible refine (brazierref01_truth.calls ((wrap64 (a1)) == (wrap64 (a2))) t210 _ A42.out).mono ?_); rintro e w' ⟨rfl, ⟨nd, rfl⟩⟩; (try first | exact ⟨rfl, _, World.drewN_drewN _ _ _⟩ | exact ⟨rfl, _, Eq.trans (World.drewN_drewN _ _ _) (congrArg (World.drewN _) (Nat.add_assoc _ _ _))⟩)))
                                            repeat (go_quiet (first | (go_at_call 48; (with_reducible refine (brazierref01_truth.calls ((wrap64 (a1)) == (wrap64 (a2))) t210 _ A42.out).mono ?_); rintro e w' ⟨rfl, ⟨nd, rfl⟩⟩; (try first | exact ⟨rfl, _, World.drewN_drewN _ _ _⟩ | exact ⟨rfl, _, Eq.trans (World.drewN_drewN _ _ _) (congrArg (World.drewN _) (Nat.add_assoc _ _ _))⟩))); try go_wp2_with (first | (go_at_call 48; (with_reducible refine (brazierref01_truth.calls ((wrap64 (a1)) == (wrap64 (a2))) t210 _ A42.out).mono ?_); rintro e w' ⟨rfl, ⟨nd, rfl⟩⟩; (try first | exact ⟨rfl, _, World.drewN_drewN _ _ _⟩ | exact ⟨rfl, _, Eq.trans (World.drewN_drewN _ _ _) (congrArg (World.drewN _) (Nat.add_assoc _ _ _))⟩))))
                                            go_ret2
                                            exact ⟨by first | rfl | (simp; done) | (simp [*]; done), by repeat (first | exact Drawn0.refl _ | apply Drawn0.step)⟩
                                          · rw [if_neg c41] at H
                                            have c41b0 : (a0 == 15) = false := beq_eq_false_iff_ne.mpr c41
                                            have c41b1 : (a0 != 15) = true := bne_iff_ne.mpr c41
                                            by_cases c43 : a0 = 16
                                            · rw [if_pos c43] at H
                                              have c43b0 : (a0 == 16) = true := beq_iff_eq.mpr c43
                                              have c43b1 : (a0 != 16) = false := bne_eq_false_iff_eq.mpr c43
                                              clear c43
                                              replace H := Option.bind_eq_some_iff.mp H
                                              obtain ⟨t211, A440, H⟩ := H
                                              replace H : (some (t211, true)) = some (r1, r2) := H
                                              have A44 := Aside0.mk A440
                                              clear A440
                                              simp only [Option.some.injEq, Prod.mk.injEq] at H
                                              obtain ⟨rfl, rfl⟩ := H
                                              go_wp2_with (first | (go_at_call 48; (with_reducible refine (brazierref01_truth.calls ((wrap64 (a1)) != (wrap64 (a2))) t211 _ A44.out).mono ?_); rintro e w' ⟨rfl, ⟨nd, rfl⟩⟩; (try first | exact ⟨rfl, _, World.drewN_drewN _ _ _⟩ | exact ⟨rfl, _, Eq.trans (World.drewN_drewN _ _ _) (congrArg (World.drewN _) (Nat.add_assoc _ _ _))⟩)))
                                              repeat (go_quiet (first | (go_at_call 48; (with_reducible refine (brazierref01_truth.calls ((wrap64 (a1)) != (wrap64 (a2))) t211 _ A44.out).mono ?_); rintro e w' ⟨rfl, ⟨nd, rfl⟩⟩; (try first | exact ⟨rfl, _, World.drewN_drewN _ _ _⟩ | exact ⟨rfl, _, Eq.trans (World.drewN_drewN _ _ _) (congrArg (World.drewN _) (Nat.add_assoc _ _ _))⟩))); try go_wp2_with (first | (go_at_call 48; (with_reducible refine (brazierref01_truth.calls ((wrap64 (a1)) != (wrap64 (a2))) t211 _ A44.out).mono ?_); rintro e w' ⟨rfl, ⟨nd, rfl⟩⟩; (try first | exact ⟨rfl, _, World.drewN_drewN _ _ _⟩ | exact ⟨rfl, _, Eq.trans (World.drewN_drewN _ _ _) (congrArg (World.drewN _) (Nat.add_assoc _ _ _))⟩))))
                                              go_ret2
                                              exact ⟨by first | rfl | (simp; done) | (simp [*]; done), by repeat (first | exact Drawn0.refl _ | apply Drawn0.step)⟩
                                            · rw [if_neg c43] at H
                                              have c43b0 : (a0 == 16) = false := beq_eq_false_iff_ne.mpr c43
                                              have c43b1 : (a0 != 16) = true := bne_iff_ne.mpr c43
                                              by_cases c45 : a0 = 17
                                              · rw [if_pos c45] at H
                                                have c45b0 : (a0 == 17) = true := beq_iff_eq.mpr c45
                                                have c45b1 : (a0 != 17) = false := bne_eq_false_iff_eq.mpr c45
                                                clear c45
                                                replace H := Option.bind_eq_some_iff.mp H
                                                obtain ⟨t212, A460, H⟩ := H
                                                replace H : (some (t212, true)) = some (r1, r2) := H
                                                have A46 := Aside0.mk A460
                                                clear A460
                                                simp only [Option.some.injEq, Prod.mk.injEq] at H
                                                obtain ⟨rfl, rfl⟩ := H
                                                go_wp2_with (first | (go_at_call 48; (with_reducible refine (brazierref01_truth.calls ((wrap64 ((wrap64 (a1)) * (wrap64 (a2)))) != 0) t212 _ A46.out).mono ?_); rintro e w' ⟨rfl, ⟨nd, rfl⟩⟩; (try first | exact ⟨rfl, _, World.drewN_drewN _ _ _⟩ | exact ⟨rfl, _, Eq.trans (World.drewN_drewN _ _ _) (congrArg (World.drewN _) (Nat.add_assoc _ _ _))⟩)))
                                                repeat (go_quiet (first | (go_at_call 48; (with_reducible refine (brazierref01_truth.calls ((wrap64 ((wrap64 (a1)) * (wrap64 (a2)))) != 0) t212 _ A46.out).mono ?_); rintro e w' ⟨rfl, ⟨nd, rfl⟩⟩; (try first | exact ⟨rfl, _, World.drewN_drewN _ _ _⟩ | exact ⟨rfl, _, Eq.trans (World.drewN_drewN _ _ _) (congrArg (World.drewN _) (Nat.add_assoc _ _ _))⟩))); try go_wp2_with (first | (go_at_call 48; (with_reducible refine (brazierref01_truth.calls ((wrap64 ((wrap64 (a1)) * (wrap64 (a2)))) != 0) t212 _ A46.out).mono ?_); rintro e w' ⟨rfl, ⟨nd, rfl⟩⟩; (try first | exact ⟨rfl, _, World.drewN_drewN _ _ _⟩ | exact ⟨rfl, _, Eq.trans (World.drewN_drewN _ _ _) (congrArg (World.drewN _) (Nat.add_assoc _ _ _))⟩))))
                                                go_ret2
                                                exact ⟨by first | rfl | (simp; done) | (simp [*]; done), by repeat (first | exact Drawn0.refl _ | apply Drawn0.step)⟩
                                              · rw [if_neg c45] at H
                                                have c45b0 : (a0 == 17) = false := beq_eq_false_iff_ne.mpr c45
                                                have c45b1 : (a0 != 17) = true := bne_iff_ne.mpr c45
                                                by_cases c47 : a0 = 18
                                                · rw [if_pos c47] at H
                                                  have c47b0 : (a0 == 18) = true := beq_iff_eq.mpr c47
                                                  have c47b1 : (a0 != 18) = false := bne_eq_false_iff_eq.mpr c47
                                                  clear c47
                                                  by_cases c48 : (wrap64 (a1)) = 0
                                                  · rw [if_pos c48] at H
                                                    have c48b0 : ((wrap64 (a1)) == 0) = true := beq_iff_eq.mpr c48
                                                    have c48b1 : ((wrap64 (a1)) != 0) = false := bne_eq_false_iff_eq.mpr c48
                                                    clear c48
                                                    replace H := Option.bind_eq_some_iff.mp H
                                                    obtain ⟨t213, A490, H⟩ := H
                                                    replace H : (some (t213, true)) = some (r1, r2) := H
                                                    have A49 := Aside0.mk A490
                                                    clear A490
                                                    simp only [Option.some.injEq, Prod.mk.injEq] at H
                                                    obtain ⟨rfl, rfl⟩ := H
                                                    go_wp2_with (first | (go_at_call 48; (with_reducible refine (brazierref01_truth.calls ((wrap64 (a2)) != 0) t213 _ A49.out).mono ?_); rintro e w' ⟨rfl, ⟨nd, rfl⟩⟩; (try first | exact ⟨rfl, _, World.drewN_drewN _ _ _⟩ | exact ⟨rfl, _, Eq.trans (World.drewN_drewN _ _ _) (congrArg (World.drewN _) (Nat.add_assoc _ _ _))⟩)))
                                                    repeat (go_quiet (first | (go_at_call 48; (with_reducible refine (brazierref01_truth.calls ((wrap64 (a2)) != 0) t213 _ A49.out).mono ?_); rintro e w' ⟨rfl, ⟨nd, rfl⟩⟩; (try first | exact ⟨rfl, _, World.drewN_drewN _ _ _⟩ | exact ⟨rfl, _, Eq.trans (World.drewN_drewN _ _ _) (congrArg (World.drewN _) (Nat.add_assoc _ _ _))⟩))); try go_wp2_with (first | (go_at_call 48; (with_reducible refine (brazierref01_truth.calls ((wrap64 (a2)) != 0) t213 _ A49.out).mono ?_); rintro e w' ⟨rfl, ⟨nd, rfl⟩⟩; (try first | exact ⟨rfl, _, World.drewN_drewN _ _ _⟩ | exact ⟨rfl, _, Eq.trans (World.drewN_drewN _ _ _) (congrArg (World.drewN _) (Nat.add_assoc _ _ _))⟩))))
                                                    go_ret2
                                                    exact ⟨by first | rfl | (simp; done) | (simp [*]; done), by repeat (first | exact Drawn0.refl _ | apply Drawn0.step)⟩
                                                  · rw [if_neg c48] at H
                                                    have c48b0 : ((wrap64 (a1)) == 0) = false := beq_eq_false_iff_ne.mpr c48
                                                    have c48b1 : ((wrap64 (a1)) != 0) = true := bne_iff_ne.mpr c48
                                                    replace H := Option.bind_eq_some_iff.mp H
                                                    obtain ⟨t214, A500, H⟩ := H
                                                    replace H : (some (t214, true)) = some (r1, r2) := H
                                                    have A50 := Aside0.mk A500
                                                    clear A500
                                                    simp only [Option.some.injEq, Prod.mk.injEq] at H
                                                    obtain ⟨rfl, rfl⟩ := H
                                                    go_wp2_with (first | (go_at_call 48; (with_reducible refine (brazierref01_truth.calls true t214 _ A50.out).mono ?_); rintro e w' ⟨rfl, ⟨nd, rfl⟩⟩; (try first | exact ⟨rfl, _, World.drewN_drewN _ _ _⟩ | exact ⟨rfl, _, Eq.trans (World.drewN_drewN _ _ _) (congrArg (World.drewN _) (Nat.add_assoc _ _ _))⟩)))
                                                    repeat (go_quiet (first | (go_at_call 48; (with_reducible refine (brazierref01_truth.calls true t214 _ A50.out).mono ?_); rintro e w' ⟨rfl, ⟨nd, rfl⟩⟩; (try first | exact ⟨rfl, _, World.drewN_drewN _ _ _⟩ | exact ⟨rfl, _, Eq.trans (World.drewN_drewN _ _ _) (congrArg (World.drewN _) (Nat.add_assoc _ _ _))⟩))); try go_wp2_with (first | (go_at_call 48; (with_reducible refine (brazierref01_truth.calls true t214 _ A50.out).mono ?_); rintro e w' ⟨rfl, ⟨nd, rfl⟩⟩; (try first | exact ⟨rfl, _, World.drewN_drewN _ _ _⟩ | exact ⟨rfl, _, Eq.trans (World.drewN_drewN _ _ _) (congrArg (World.drewN _) (Nat.add_assoc _ _ _))⟩))))
                                                    go_ret2
                                                    exact ⟨by first | rfl | (simp; done) | (simp [*]; done), by repeat (first | exact Drawn0.refl _ | apply Drawn0.step)⟩
                                                · rw [if_neg c47] at H
                                                  have c47b0 : (a0 == 18) = false := beq_eq_false_iff_ne.mpr c47
                                                  have c47b1 : (a0 != 18) = true := bne_iff_ne.mpr c47
                                                  simp only [Option.some.injEq, Prod.mk.injEq] at H
                                                  obtain ⟨rfl, rfl⟩ := H
                                                  go_wp2
                                                  repeat (go_quiet (fail); try go_wp2)
                                                  go_ret2
                                                  exact ⟨by first | rfl | (simp; done) | (simp [*]; done), by repeat (first | exact Drawn0.refl _ | apply Drawn0.step)⟩
def brazierref01_Un.f (a0 : Int) (a1 : Int) : Option (Int × Bool) := if a0 = 19 then ((brazierref01_Round.f (wrap64 (-(wrap64 (a1))))).bind fun t215 => (some (t215, true))) else (if a0 = 20 then ((brazierref01_truth.f (a1 == 0)).bind fun t216 => (some (t216, true))) else (if a0 = 21 then ((brazierref01_Round.f (wrap64 ((-1) - (wrap64 (a1))))).bind fun t217 => (some (t217, true))) else (some (0, false))))
set_option maxHeartbeats 8000000 in
set_option maxRecDepth 100000 in
theorem brazierref01_Un.calls (a0 : Int) (a1 : Int) (r1 : Int) (r2 : Bool) (w : World) (h : brazierref01_Un.f a0 a1 = some (r1, r2)) :
    Calls Try.prog 40 #[.int .i64 a0, .int .i32 a1] w fun e w' => e = .returned (.tuple #[.int .i32 r1, .bool r2]) ∧ Drawn0 w w' := by
  have H : (if a0 = 19 then ((brazierref01_Round.f (wrap64 (-(wrap64 (a1))))).bind fun t215 => (some (t215, true))) else (if a0 = 20 then ((brazierref01_truth.f (a1 == 0)).bind fun t216 => (some (t216, true))) else (if a0 = 21 then ((brazierref01_Round.f (wrap64 ((-1) - (wrap64 (a1))))).bind fun t217 => (some (t217, true))) else (some (0, false))))) = some (r1, r2) := h
  clear h
  by_cases c3 : a0 = 19
  · rw [if_pos c3] at H
    have c3b0 : (a0 == 19) = true := beq_iff_eq.mpr c3
    have c3b1 : (a0 != 19) = false := bne_eq_false_iff_eq.mpr c3
    clear c3
    replace H := Option.bind_eq_some_iff.mp H
    obtain ⟨t215, A40, H⟩ := H
    replace H : (some (t215, true)) = some (r1, r2) := H
    have A4 := Aside0.mk A40
    clear A40
    simp only [Option.some.injEq, Prod.mk.injEq] at H
    obtain ⟨rfl, rfl⟩ := H
    go_enter Try.func40, Try.ntmps40
    go_wp2_with (first | ((with_reducible refine gate_callee (f := 47) rfl ?_); refine goesL_ (some 12) rfl rfl Try.func47 (by kernel_rfl) rfl #[.int .i64 (wrap64 (-(wrap64 (a1))))] rfl (by (try simp only [List.map_toArray, List.map_cons, List.map_nil]); first | done | rfl | (simp only [List.length_drop, List.length_take]; rfl)) ?_; (with_reducible refine (brazierref01_Round.calls (wrap64 (-(wrap64 (a1)))) t215 _ A4.out).mono ?_); rintro e w' ⟨rfl, ⟨nd, rfl⟩⟩; refine ⟨_, rfl, ?_⟩))
    go_ret2
    exact ⟨by first | rfl | (simp; done) | (simp [*]; done), by repeat (first | exact Drawn0.refl _ | apply Drawn0.step)⟩
  · rw [if_neg c3] at H
    have c3b0 : (a0 == 19) = false := beq_eq_false_iff_ne.mpr c3
    have c3b1 : (a0 != 19) = true := bne_iff_ne.mpr c3
    by_cases c5 : a0 = 20
    · rw [if_pos c5] at H
      have c5b0 : (a0 == 20) = true := beq_iff_eq.mpr c5
      have c5b1 : (a0 != 20) = false := bne_eq_false_iff_eq.mpr c5
      clear c5
      replace H := Option.bind_eq_some_iff.mp H
      obtain ⟨t216, A60, H⟩ := H
      replace H : (some (t216, true)) = some (r1, r2) := H
      have A6 := Aside0.mk A60
      clear A60
      simp only [Option.some.injEq, Prod.mk.injEq] at H
      obtain ⟨rfl, rfl⟩ := H
      go_enter Try.func40, Try.ntmps40
      go_wp2_with (first | ((with_reducible refine gate_callee (f := 48) rfl ?_); refine goesL_ (some 17) rfl rfl Try.func48 (by kernel_rfl) rfl #[.bool (a1 == 0)] rfl (by (try simp only [List.map_toArray, List.map_cons, List.map_nil]); first | done | rfl | (simp only [List.length_drop, List.length_take]; rfl)) ?_; (with_reducible refine (brazierref01_truth.calls (a1 == 0) t216 _ A6.out).mono ?_); rintro e w' ⟨rfl, ⟨nd, rfl⟩⟩; refine ⟨_, rfl, ?_⟩))
      go_ret2
      exact ⟨by first | rfl | (simp; done) | (simp [*]; done), by repeat (first | exact Drawn0.refl _ | apply Drawn0.step)⟩
    · rw [if_neg c5] at H
      have c5b0 : (a0 == 20) = false := beq_eq_false_iff_ne.mpr c5
      have c5b1 : (a0 != 20) = true := bne_iff_ne.mpr c5
      by_cases c7 : a0 = 21
      · rw [if_pos c7] at H
        have c7b0 : (a0 == 21) = true := beq_iff_eq.mpr c7
        have c7b1 : (a0 != 21) = false := bne_eq_false_iff_eq.mpr c7
        clear c7
        replace H := Option.bind_eq_some_iff.mp H
        obtain ⟨t217, A80, H⟩ := H
        replace H : (some (t217, true)) = some (r1, r2) := H
        have A8 := Aside0.mk A80
        clear A80
        simp only [Option.some.injEq, Prod.mk.injEq] at H
        obtain ⟨rfl, rfl⟩ := H
        go_enter Try.func40, Try.ntmps40
        go_wp2_with (first | ((with_reducible refine gate_callee (f := 47) rfl ?_); refine goesL_ (some 23) rfl rfl Try.func47 (by kernel_rfl) rfl #[.int .i64 (wrap64 ((-1) - (wrap64 (a1))))] rfl (by (try simp only [List.map_toArray, List.map_cons, List.map_nil]); first | done | rfl | (simp only [List.length_drop, List.length_take]; rfl)) ?_; (with_reducible refine (brazierref01_Round.calls (wrap64 ((-1) - (wrap64 (a1)))) t217 _ A8.out).mono ?_); rintro e w' ⟨rfl, ⟨nd, rfl⟩⟩; refine ⟨_, rfl, ?_⟩))
        go_ret2
        exact ⟨by first | rfl | (simp; done) | (simp [*]; done), by repeat (first | exact Drawn0.refl _ | apply Drawn0.step)⟩
      · rw [if_neg c7] at H
        have c7b0 : (a0 == 21) = false := beq_eq_false_iff_ne.mpr c7
        have c7b1 : (a0 != 21) = true := bne_iff_ne.mpr c7
        simp only [Option.some.injEq, Prod.mk.injEq] at H
        obtain ⟨rfl, rfl⟩ := H
        go_enter Try.func40, Try.ntmps40
        go_wp2
        go_ret2
        exact ⟨by first | rfl | (simp; done) | (simp [*]; done), by repeat (first | exact Drawn0.refl _ | apply Drawn0.step)⟩
end Go.Proofs.Ytabkinlpbefjgaa.X

