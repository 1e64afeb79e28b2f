/- The walks: for each Go function a Lean function with the same answers, and the proof that the Go code comes to them; no condition beyond what each contract states. Written by this session's own program xprint.py (over the kit's print program); not one of print.sh's texts. -/
import Derived.Test.YtpoofggcodiaiaaX0
import Derived.Test.YtpoofggcodiaiaaX5
namespace Go.Proofs.Ytpoofggcodiaiaa.X
open Go.RowKit Go.Proofs.YtpoofggcodiaiaaW.PrintWords Go.Proofs.YtpoofggcodiaiaaW.PrintLast Go.Proofs.YtpoofggcodiaiaaW.PrintMore
attribute [local go_sem] max2_int min2_int max_two min_two max_three min_three max_four min_four   -- for this text's walks alone
set_option linter.unusedVariables false
set_option linter.unusedSimpArgs false

private theorem xdn {w : World} {a b : Nat} : ∃ n, (w.drewN a).drewN b = w.drewN n := ⟨_, World.drewN_drewN _ _ _⟩
/-! ### code_fixed: function 16 -/
set_option maxHeartbeats 8000000 in
set_option maxRecDepth 100000 in
theorem code_fixed.o1 (w : World) :
  Calls Try.prog 16 #[.int .i64 1] w fun e w' => e = .returned (.int .u32 55) ∧ Drawn0 w w' := by
 go_enter Try.func16, Try.ntmps16
 go_wp2
 go_ret
 exact ⟨congrArg (fun n => Ending.returned (.int .u32 n)) (by decide +kernel), Drawn0.refl _⟩
set_option maxHeartbeats 8000000 in
set_option maxRecDepth 100000 in
theorem code_fixed.o2 (w : World) :
  Calls Try.prog 16 #[.int .i64 2] w fun e w' => e = .returned (.int .u32 19) ∧ Drawn0 w w' := by
 go_enter Try.func16, Try.ntmps16
 go_wp2
 go_ret
 exact ⟨congrArg (fun n => Ending.returned (.int .u32 n)) (by decide +kernel), Drawn0.refl _⟩
set_option maxHeartbeats 8000000 in
set_option maxRecDepth 100000 in
theorem code_fixed.o3 (w : World) :
  Calls Try.prog 16 #[.int .i64 3] w fun e w' => e = .returned (.int .u32 8211) ∧ Drawn0 w w' := by
 go_enter Try.func16, Try.ntmps16
 go_wp2
 go_ret
 exact ⟨congrArg (fun n => Ending.returned (.int .u32 n)) (by decide +kernel), Drawn0.refl _⟩
set_option maxHeartbeats 8000000 in
set_option maxRecDepth 100000 in
theorem code_fixed.o4 (w : World) :
  Calls Try.prog 16 #[.int .i64 4] w fun e w' => e = .returned (.int .u32 12307) ∧ Drawn0 w w' := by
 go_enter Try.func16, Try.ntmps16
 go_wp2
 go_ret
 exact ⟨congrArg (fun n => Ending.returned (.int .u32 n)) (by decide +kernel), Drawn0.refl _⟩
set_option maxHeartbeats 8000000 in
set_option maxRecDepth 100000 in
theorem code_fixed.o5 (w : World) :
  Calls Try.prog 16 #[.int .i64 5] w fun e w' => e = .returned (.int .u32 16403) ∧ Drawn0 w w' := by
 go_enter Try.func16, Try.ntmps16
 go_wp2
 go_ret
 exact ⟨congrArg (fun n => Ending.returned (.int .u32 n)) (by decide +kernel), Drawn0.refl _⟩
set_option maxHeartbeats 8000000 in
set_option maxRecDepth 100000 in
theorem code_fixed.o6 (w : World) :
  Calls Try.prog 16 #[.int .i64 6] w fun e w' => e = .returned (.int .u32 24595) ∧ Drawn0 w w' := by
 go_enter Try.func16, Try.ntmps16
 go_wp2
 go_ret
 exact ⟨congrArg (fun n => Ending.returned (.int .u32 n)) (by decide +kernel), Drawn0.refl _⟩
set_option maxHeartbeats 8000000 in
set_option maxRecDepth 100000 in
theorem code_fixed.o7 (w : World) :
  Calls Try.prog 16 #[.int .i64 7] w fun e w' => e = .returned (.int .u32 28691) ∧ Drawn0 w w' := by
 go_enter Try.func16, Try.ntmps16
 go_wp2
 go_ret
 exact ⟨congrArg (fun n => Ending.returned (.int .u32 n)) (by decide +kernel), Drawn0.refl _⟩
set_option maxHeartbeats 8000000 in
set_option maxRecDepth 100000 in
theorem code_fixed.o8 (w : World) :
  Calls Try.prog 16 #[.int .i64 8] w fun e w' => e = .returned (.int .u32 4115) ∧ Drawn0 w w' := by
 go_enter Try.func16, Try.ntmps16
 go_wp2
 go_ret
 exact ⟨congrArg (fun n => Ending.returned (.int .u32 n)) (by decide +kernel), Drawn0.refl _⟩
set_option maxHeartbeats 8000000 in
set_option maxRecDepth 100000 in
theorem code_fixed.o9 (w : World) :
  Calls Try.prog 16 #[.int .i64 9] w fun e w' => e = .returned (.int .u32 20499) ∧ Drawn0 w w' := by
 go_enter Try.func16, Try.ntmps16
 go_wp2
 go_ret
 exact ⟨congrArg (fun n => Ending.returned (.int .u32 n)) (by decide +kernel), Drawn0.refl _⟩
set_option maxHeartbeats 8000000 in
set_option maxRecDepth 100000 in
theorem code_fixed.o10 (w : World) :
  Calls Try.prog 16 #[.int .i64 10] w fun e w' => e = .returned (.int .u32 1073762323) ∧ Drawn0 w w' := by
 go_enter Try.func16, Try.ntmps16
 go_wp2
 go_ret
 exact ⟨congrArg (fun n => Ending.returned (.int .u32 n)) (by decide +kernel), Drawn0.refl _⟩
set_option maxHeartbeats 8000000 in
set_option maxRecDepth 100000 in
theorem code_fixed.o11 (w : World) :
  Calls Try.prog 16 #[.int .i64 11] w fun e w' => e = .returned (.int .u32 51) ∧ Drawn0 w w' := by
 go_enter Try.func16, Try.ntmps16
 go_wp2
 go_ret
 exact ⟨congrArg (fun n => Ending.returned (.int .u32 n)) (by decide +kernel), Drawn0.refl _⟩
set_option maxHeartbeats 8000000 in
set_option maxRecDepth 100000 in
theorem code_fixed.o12 (w : World) :
  Calls Try.prog 16 #[.int .i64 12] w fun e w' => e = .returned (.int .u32 1073741875) ∧ Drawn0 w w' := by
 go_enter Try.func16, Try.ntmps16
 go_wp2
 go_ret
 exact ⟨congrArg (fun n => Ending.returned (.int .u32 n)) (by decide +kernel), Drawn0.refl _⟩
set_option maxHeartbeats 8000000 in
set_option maxRecDepth 100000 in
theorem code_fixed.o13 (w : World) :
  Calls Try.prog 16 #[.int .i64 13] w fun e w' => e = .returned (.int .u32 4147) ∧ Drawn0 w w' := by
 go_enter Try.func16, Try.ntmps16
 go_wp2
 go_ret
 exact ⟨congrArg (fun n => Ending.returned (.int .u32 n)) (by decide +kernel), Drawn0.refl _⟩
set_option maxHeartbeats 8000000 in
set_option maxRecDepth 100000 in
theorem code_fixed.o14 (w : World) :
  Calls Try.prog 16 #[.int .i64 14] w fun e w' => e = .returned (.int .u32 8243) ∧ Drawn0 w w' := by
 go_enter Try.func16, Try.ntmps16
 go_wp2
 go_ret
 exact ⟨congrArg (fun n => Ending.returned (.int .u32 n)) (by decide +kernel), Drawn0.refl _⟩
set_option maxHeartbeats 8000000 in
set_option maxRecDepth 100000 in
theorem code_fixed.o15 (w : World) :
  Calls Try.prog 16 #[.int .i64 15] w fun e w' => e = .returned (.int .u32 12339) ∧ Drawn0 w w' := by
 go_enter Try.func16, Try.ntmps16
 go_wp2
 go_ret
 exact ⟨congrArg (fun n => Ending.returned (.int .u32 n)) (by decide +kernel), Drawn0.refl _⟩
set_option maxHeartbeats 8000000 in
set_option maxRecDepth 100000 in
theorem code_fixed.o16 (w : World) :
  Calls Try.prog 16 #[.int .i64 16] w fun e w' => e = .returned (.int .u32 16435) ∧ Drawn0 w w' := by
 go_enter Try.func16, Try.ntmps16
 go_wp2
 go_ret
 exact ⟨congrArg (fun n => Ending.returned (.int .u32 n)) (by decide +kernel), Drawn0.refl _⟩
set_option maxHeartbeats 8000000 in
set_option maxRecDepth 100000 in
theorem code_fixed.o17 (w : World) :
  Calls Try.prog 16 #[.int .i64 17] w fun e w' => e = .returned (.int .u32 20531) ∧ Drawn0 w w' := by
 go_enter Try.func16, Try.ntmps16
 go_wp2
 go_ret
 exact ⟨congrArg (fun n => Ending.returned (.int .u32 n)) (by decide +kernel), Drawn0.refl _⟩
set_option maxHeartbeats 8000000 in
set_option maxRecDepth 100000 in
theorem code_fixed.o18 (w : World) :
  Calls Try.prog 16 #[.int .i64 18] w fun e w' => e = .returned (.int .u32 1073762355) ∧ Drawn0 w w' := by
 go_enter Try.func16, Try.ntmps16
 go_wp2
 go_ret
 exact ⟨congrArg (fun n => Ending.returned (.int .u32 n)) (by decide +kernel), Drawn0.refl _⟩
set_option maxHeartbeats 8000000 in
set_option maxRecDepth 100000 in
theorem code_fixed.o19 (w : World) :
  Calls Try.prog 16 #[.int .i64 19] w fun e w' => e = .returned (.int .u32 24627) ∧ Drawn0 w w' := by
 go_enter Try.func16, Try.ntmps16
 go_wp2
 go_ret
 exact ⟨congrArg (fun n => Ending.returned (.int .u32 n)) (by decide +kernel), Drawn0.refl _⟩
set_option maxHeartbeats 8000000 in
set_option maxRecDepth 100000 in
theorem code_fixed.o20 (w : World) :
  Calls Try.prog 16 #[.int .i64 20] w fun e w' => e = .returned (.int .u32 28723) ∧ Drawn0 w w' := by
 go_enter Try.func16, Try.ntmps16
 go_wp2
 go_ret
 exact ⟨congrArg (fun n => Ending.returned (.int .u32 n)) (by decide +kernel), Drawn0.refl _⟩
def code_fixed.f (a0 : Int) : Option Int := if a0 = 1 then some 55 else if a0 = 2 then some 19 else if a0 = 3 then some 8211 else if a0 = 4 then some 12307 else if a0 = 5 then some 16403 else if a0 = 6 then some 24595 else if a0 = 7 then some 28691 else if a0 = 8 then some 4115 else if a0 = 9 then some 20499 else if a0 = 10 then some 1073762323 else if a0 = 11 then some 51 else if a0 = 12 then some 1073741875 else if a0 = 13 then some 4147 else if a0 = 14 then some 8243 else if a0 = 15 then some 12339 else if a0 = 16 then some 16435 else if a0 = 17 then some 20531 else if a0 = 18 then some 1073762355 else if a0 = 19 then some 24627 else if a0 = 20 then some 28723 else code_rest.f a0
set_option maxHeartbeats 8000000 in
set_option maxRecDepth 100000 in
theorem code_fixed.other (a0 : Int) (r : Int) (w : World) (h : code_rest.f a0 = some r) (g1 : (a0 == 1) = false) (g2 : (a0 == 2) = false) (g3 : (a0 == 3) = false) (g4 : (a0 == 4) = false) (g5 : (a0 == 5) = false) (g6 : (a0 == 6) = false) (g7 : (a0 == 7) = false) (g8 : (a0 == 8) = false) (g9 : (a0 == 9) = false) (g10 : (a0 == 10) = false) (g11 : (a0 == 11) = false) (g12 : (a0 == 12) = false) (g13 : (a0 == 13) = false) (g14 : (a0 == 14) = false) (g15 : (a0 == 15) = false) (g16 : (a0 == 16) = false) (g17 : (a0 == 17) = false) (g18 : (a0 == 18) = false) (g19 : (a0 == 19) = false) (g20 : (a0 == 20) = false) :
  Calls Try.prog 16 #[.int .i64 a0] w fun e w' => e = .returned (.int .u32 r) ∧ Drawn0 w w' := by
 have H := Aside0.mk h
 clear h
 go_enter Try.func16, Try.ntmps16
 go_wp2_with fail
 refine (code_rest.calls a0 r _ H.out).mono ?_
 rintro e w' ⟨rfl, ⟨n, rfl⟩⟩
 go_wp2
 go_ret
 exact ⟨rfl, ⟨⟨n, rfl⟩⟩⟩
theorem code_fixed.calls (a0 : Int) (r : Int) (w : World) (h : code_fixed.f a0 = some r) :
  Calls Try.prog 16 #[.int .i64 a0] w fun e w' => e = .returned (.int .u32 r) ∧ Drawn0 w w' := by
 unfold code_fixed.f at h
 by_cases g1 : a0 = 1
 ·rw [if_pos g1] at h; obtain rfl := Option.some.inj h; subst g1; exact code_fixed.o1 w
 rw [if_neg g1] at h
 by_cases g2 : a0 = 2
 ·rw [if_pos g2] at h; obtain rfl := Option.some.inj h; subst g2; exact code_fixed.o2 w
 rw [if_neg g2] at h
 by_cases g3 : a0 = 3
 ·rw [if_pos g3] at h; obtain rfl := Option.some.inj h; subst g3; exact code_fixed.o3 w
 rw [if_neg g3] at h
 by_cases g4 : a0 = 4
 ·rw [if_pos g4] at h; obtain rfl := Option.some.inj h; subst g4; exact code_fixed.o4 w
 rw [if_neg g4] at h
 by_cases g5 : a0 = 5
 ·rw [if_pos g5] at h; obtain rfl := Option.some.inj h; subst g5; exact code_fixed.o5 w
 rw [if_neg g5] at h
 by_cases g6 : a0 = 6
 ·rw [if_pos g6] at h; obtain rfl := Option.some.inj h; subst g6; exact code_fixed.o6 w
 rw [if_neg g6] at h
 by_cases g7 : a0 = 7
 ·rw [if_pos g7] at h; obtain rfl := Option.some.inj h; subst g7; exact code_fixed.o7 w
 rw [if_neg g7] at h
 by_cases g8 : a0 = 8
 ·rw [if_pos g8] at h; obtain rfl := Option.some.inj h; subst g8; exact code_fixed.o8 w
 rw [if_neg g8] at h
 by_cases g9 : a0 = 9
 ·rw [if_pos g9] at h; obtain rfl := Option.some.inj h; subst g9; exact code_fixed.o9 w
 rw [if_neg g9] at h
 by_cases g10 : a0 = 10
 ·rw [if_pos g10] at h; obtain rfl := Option.some.inj h; subst g10; exact code_fixed.o10 w
 rw [if_neg g10] at h
 by_cases g11 : a0 = 11
 ·rw [if_pos g11] at h; obtain rfl := Option.some.inj h; subst g11; exact code_fixed.o11 w
 rw [if_neg g11] at h
 by_cases g12 : a0 = 12
 ·rw [if_pos g12] at h; obtain rfl := Option.some.inj h; subst g12; exact code_fixed.o12 w
 rw [if_neg g12] at h
 by_cases g13 : a0 = 13
 ·rw [if_pos g13] at h; obtain rfl := Option.some.inj h; subst g13; exact code_fixed.o13 w
 rw [if_neg g13] at h
 by_cases g14 : a0 = 14
 ·rw [if_pos g14] at h; obtain rfl := Option.some.inj h; subst g14; exact code_fixed.o14 w
 rw [if_neg g14] at h
 by_cases g15 : a0 = 15
 ·rw [if_pos g15] at h; obtain rfl := Option.some.inj h; subst g15; exact code_fixed.o15 w
 rw [if_neg g15] at h
 by_cases g16 : a0 = 16
 ·rw [if_pos g16] at h; obtain rfl := Option.some.inj h; subst g16; exact code_fixed.o16 w
 rw [if_neg g16] at h
 by_cases g17 : a0 = 17
 ·rw [if_pos g17] at h; obtain rfl := Option.some.inj h; subst g17; exact code_fixed.o17 w
 rw [if_neg g17] at h
 by_cases g18 : a0 = 18
 ·rw [if_pos g18] at h; obtain rfl := Option.some.inj h; subst g18; exact code_fixed.o18 w
 rw [if_neg g18] at h
 by_cases g19 : a0 = 19
 ·rw [if_pos g19] at h; obtain rfl := Option.some.inj h; subst g19; exact code_fixed.o19 w
 rw [if_neg g19] at h
 by_cases g20 : a0 = 20
 ·rw [if_pos g20] at h; obtain rfl := Option.some.inj h; subst g20; exact code_fixed.o20 w
 rw [if_neg g20] at h
 exact code_fixed.other a0 r w h (beq_eq_false_iff_ne.2 g1) (beq_eq_false_iff_ne.2 g2) (beq_eq_false_iff_ne.2 g3) (beq_eq_false_iff_ne.2 g4) (beq_eq_false_iff_ne.2 g5) (beq_eq_false_iff_ne.2 g6) (beq_eq_false_iff_ne.2 g7) (beq_eq_false_iff_ne.2 g8) (beq_eq_false_iff_ne.2 g9) (beq_eq_false_iff_ne.2 g10) (beq_eq_false_iff_ne.2 g11) (beq_eq_false_iff_ne.2 g12) (beq_eq_false_iff_ne.2 g13) (beq_eq_false_iff_ne.2 g14) (beq_eq_false_iff_ne.2 g15) (beq_eq_false_iff_ne.2 g16) (beq_eq_false_iff_ne.2 g17) (beq_eq_false_iff_ne.2 g18) (beq_eq_false_iff_ne.2 g19) (beq_eq_false_iff_ne.2 g20)

/-! ### code_field: function 35 -/
def code_field.f (a0 : Int) (a1 : Int) (a2 : Int) (a3 : Int) : Option (Int) := if 0 ≤ a1 then (if 0 ≤ a2 then (if 0 ≤ a3 then (some (shl .u32 (Go.bits .and .u32 (shr .u32 a0 a1) (((shl .u32 1 a2) - 1) % 4294967296)) a3)) else (none)) else (none)) else (none)
set_option maxHeartbeats 8000000 in
set_option maxRecDepth 100000 in
theorem code_field.calls (a0 : Int) (a1 : Int) (a2 : Int) (a3 : Int) (r : Int) (w : World) (h : code_field.f a0 a1 a2 a3 = some r) :
  Calls Try.prog 35 #[.int .u32 a0, .int .i64 a1, .int .i64 a2, .int .i64 a3] w fun e w' => e = .returned (.int .u32 r) ∧ Drawn0 w w' := by
 have H : (if 0 ≤ a1 then (if 0 ≤ a2 then (if 0 ≤ a3 then (some (shl .u32 (Go.bits .and .u32 (shr .u32 a0 a1) (((shl .u32 1 a2) - 1) % 4294967296)) a3)) else (none)) else (none)) else (none)) = some r := h
 clear h
 by_cases c5 : 0 ≤ a1
 ·rw [if_pos c5] at H
  have c5b0 := eq_true c5
  have c5b1 : decide (0 ≤ a1) = true := decide_eq_true c5
  clear c5
  obtain ⟨ji6, hji6⟩ : ∃ j_ : Int, (shr .u32 a0 a1) = j_ := ⟨_, rfl⟩
  replace H : (if 0 ≤ a2 then (if 0 ≤ a3 then (some (shl .u32 (Go.bits .and .u32 (ji6) (((shl .u32 1 a2) - 1) % 4294967296)) a3)) else (none)) else (none)) = some r := by (rw [hji6] at H; exact H)
  have hji6_ : (a0 / 2 ^ min a1.toNat 32) = ji6 := hji6
  have hji6z : a1 ≤ 32 → (a0 / 2 ^ a1.toNat) = ji6 := shr_small hji6
  by_cases c7 : 0 ≤ a2
  ·rw [if_pos c7] at H
   have c7b0 := eq_true c7
   have c7b1 : decide (0 ≤ a2) = true := decide_eq_true c7
   clear c7
   obtain ⟨ji8, hji8⟩ : ∃ j_ : Int, (shl .u32 1 a2) = j_ := ⟨_, rfl⟩
   replace H : (if 0 ≤ a3 then (some (shl .u32 (Go.bits .and .u32 (ji6) (((ji8) - 1) % 4294967296)) a3)) else (none)) = some r := by (rw [hji8] at H; exact H)
   have hji8_ : (IntKind.u32.wrap (1 * 2 ^ min a2.toNat 32)) = ji8 := hji8
   have hji8z : a2 ≤ 32 → (IntKind.u32.wrap (1 * 2 ^ a2.toNat)) = ji8 := shl_small hji8
   have hji8u : (IntKind.u32.wrap (2 ^ min a2.toNat 32)) = ji8 := by have h_ := hji8_; rw [Int.one_mul] at h_; exact h_
   have hji8v : a2 ≤ 32 → (IntKind.u32.wrap (2 ^ a2.toNat)) = ji8 := fun hle_ => by have h_ := hji8z hle_; rw [Int.one_mul] at h_; exact h_
   by_cases c9 : 0 ≤ a3
   ·rw [if_pos c9] at H
    have c9b0 := eq_true c9
    have c9b1 : decide (0 ≤ a3) = true := decide_eq_true c9
    clear c9
    obtain ⟨ji10, hji10⟩ : ∃ j_ : Int, (shl .u32 (Go.bits .and .u32 (ji6) (((ji8) - 1) % 4294967296)) a3) = j_ := ⟨_, rfl⟩
    replace H : (some ji10) = some r := by (rw [hji10] at H; exact H)
    have hji10_ : (IntKind.u32.wrap ((Go.bits .and .u32 (ji6) (((ji8) - 1) % 4294967296)) * 2 ^ min a3.toNat 32)) = ji10 := hji10
    have hji10z : a3 ≤ 32 → (IntKind.u32.wrap ((Go.bits .and .u32 (ji6) (((ji8) - 1) % 4294967296)) * 2 ^ a3.toNat)) = ji10 := shl_small hji10
    obtain rfl := Option.some.inj H
    go_enter Try.func35, Try.ntmps35
    go_wp2
    repeat (go_quiet (fail); try go_wp2)
    go_ret
    exact ⟨by rfl, by repeat (first | exact Drawn0.refl _ | apply Drawn0.step)⟩
   ·rw [if_neg c9] at H
    exact absurd H (by simp)
  ·rw [if_neg c7] at H
   exact absurd H (by simp)
 ·rw [if_neg c5] at H
  exact absurd H (by simp)

/-! ### code_number: function 17 -/
def code_number.j0 : Nat → Int → Int → Bool → Option (Int)
 | 0, _, _, _ => none
 | k + 1, x0, x5, x21 => if x21 = true then ((code_field.f x5 1 4 8).bind fun t119 => ((code_field.f x5 5 6 25).bind fun t120 => ((code_field.f x5 11 1 7).bind fun t121 => ((code_field.f x5 12 1 31).bind fun t122 => (some (Go.bits .or .u32 (Go.bits .or .u32 (Go.bits .or .u32 t119 t120) t121) t122)))))) else (if x0 = 28 then ((code_field.f x5 1 10 21).bind fun t123 => ((code_field.f x5 11 1 20).bind fun t124 => ((code_field.f x5 12 8 12).bind fun t125 => ((code_field.f x5 20 1 31).bind fun t126 => (some (Go.bits .or .u32 (Go.bits .or .u32 (Go.bits .or .u32 t123 t124) t125) t126)))))) else (if x0 ≥ 2 then (if x0 ≤ 10 then (some ((x5 * 1048576) % 4294967296)) else (if x0 = 24 then (some ((x5 * 1048576) % 4294967296)) else (if x0 = 29 then (some ((x5 * 1048576) % 4294967296)) else (some 0)))) else (if x0 = 24 then (some ((x5 * 1048576) % 4294967296)) else (if x0 = 29 then (some ((x5 * 1048576) % 4294967296)) else (some 0)))))
def code_number.f (k : Nat) (a0 : Int) (a1 : Int) : Option (Int) := if a0 = 1 then (some ((((a1) % 4294967296) * 4096) % 4294967296)) else (if a0 = 25 then ((code_field.f ((a1) % 4294967296) 0 5 7).bind fun t117 => ((code_field.f ((a1) % 4294967296) 5 7 25).bind fun t118 => (some (Go.bits .or .u32 t117 t118)))) else (if a0 = 26 then (code_number.j0 k a0 ((a1) % 4294967296) true) else (code_number.j0 k a0 ((a1) % 4294967296) (a0 == 27))))
theorem code_number.mono_l : ∀ k, (∀ y0 y1 y2, LeO (code_number.j0 k y0 y1 y2) (code_number.j0 (k + 1) y0 y1 y2))
 | 0 => fun _ _ _ r h => by simp [code_number.j0] at h
 | k + 1 => by
  have ih0 := code_number.mono_l k
  ·intro y0 y1 y2
   unfold code_number.j0
   repeat' first
   | (with_reducible exact ih0 _ _ _)
   | (with_reducible exact LeO.refl _)
   | (with_reducible exact LeO.none _)
   | (with_reducible refine LeO.ite ?_ ?_)
   | (with_reducible refine LeO.bind ?_ (fun _ => ?_))
   | exact ih0 _ _ _
   | exact LeO.none _
   | refine LeO.ite ?_ ?_
   | refine LeO.bind ?_ (fun _ => ?_)
theorem code_number.mono : ∀ a0 a1 k, LeO (code_number.f k a0 a1) (code_number.f (k + 1) a0 a1) := by
 intro a0 a1 k
 have ih0 := code_number.mono_l k
 unfold code_number.f
 repeat' first
   | (with_reducible exact ih0 _ _ _)
   | (with_reducible exact LeO.refl _)
   | (with_reducible exact LeO.none _)
   | (with_reducible refine LeO.ite ?_ ?_)
   | (with_reducible refine LeO.bind ?_ (fun _ => ?_))
   | exact ih0 _ _ _
   | exact LeO.none _
   | refine LeO.ite ?_ ?_
   | refine LeO.bind ?_ (fun _ => ?_)
set_option maxHeartbeats 8000000 in
set_option maxRecDepth 100000 in
theorem code_number.calls (k : Nat) (a0 : Int) (a1 : Int) (r : Int) (w : World) (h : code_number.f k a0 a1 = some r) :
  Calls Try.prog 17 #[.int .i64 a0, .int .i32 a1] w fun e w' => e = .returned (.int .u32 r) ∧ Drawn0 w w' := by
 have H : (if a0 = 1 then (some ((((a1) % 4294967296) * 4096) % 4294967296)) else (if a0 = 25 then ((code_field.f ((a1) % 4294967296) 0 5 7).bind fun t117 => ((code_field.f ((a1) % 4294967296) 5 7 25).bind fun t118 => (some (Go.bits .or .u32 t117 t118)))) else (if a0 = 26 then (code_number.j0 k a0 ((a1) % 4294967296) true) else (code_number.j0 k a0 ((a1) % 4294967296) (a0 == 27))))) = some r := h
 clear h
 by_cases c3 : a0 = 1
 ·rw [if_pos c3] at H
  have c3b0 : (a0 == 1) = true := beq_iff_eq.mpr c3
  have c3b1 : (a0 != 1) = false := bne_eq_false_iff_eq.mpr c3
  clear c3
  obtain rfl := Option.some.inj H
  go_enter Try.func17, Try.ntmps17
  go_wp2
  go_ret
  exact ⟨by rfl, by repeat (exact Drawn0.refl _)⟩
 ·rw [if_neg c3] at H
  have c3b0 : (a0 == 1) = false := beq_eq_false_iff_ne.mpr c3
  have c3b1 : (a0 != 1) = true := bne_iff_ne.mpr c3
  by_cases c4 : a0 = 25
  ·rw [if_pos c4] at H
   have c4b0 : (a0 == 25) = true := beq_iff_eq.mpr c4
   have c4b1 : (a0 != 25) = false := bne_eq_false_iff_eq.mpr c4
   clear c4
   replace H := Option.bind_eq_some_iff.mp H
   obtain ⟨t117, A50, H⟩ := H
   replace H : ((code_field.f ((a1) % 4294967296) 5 7 25).bind fun t118 => (some (Go.bits .or .u32 t117 t118))) = some r := H
   have A5 := Aside0.mk A50
   clear A50
   replace H := Option.bind_eq_some_iff.mp H
   obtain ⟨t118, A60, H⟩ := H
   replace H : (some (Go.bits .or .u32 t117 t118)) = some r := H
   have A6 := Aside0.mk A60
   clear A60
   obtain rfl := Option.some.inj H
   go_enter Try.func17, Try.ntmps17
   go_wp2_with (first | ((with_reducible refine gate_callee (f := 35) rfl ?_); refine goesL_ (some 17) rfl rfl Try.func35 (by kernel_rfl) rfl #[.int .u32 ((a1) % 4294967296), .int .i64 0, .int .i64 5, .int .i64 7] rfl (by (try simp only [List.map_toArray, List.map_cons, List.map_nil]); rfl) ?_; (with_reducible refine (code_field.calls ((a1) % 4294967296) 0 5 7 t117 _ A5.out).mono ?_); rintro e w' ⟨rfl, ⟨nd, rfl⟩⟩; refine ⟨_, rfl, ?_⟩) | ((with_reducible refine gate_callee (f := 35) rfl ?_); refine goesL_ (some 19) rfl rfl Try.func35 (by kernel_rfl) rfl #[.int .u32 ((a1) % 4294967296), .int .i64 5, .int .i64 7, .int .i64 25] rfl (by (try simp only [List.map_toArray, List.map_cons, List.map_nil]); rfl) ?_; (with_reducible refine (code_field.calls ((a1) % 4294967296) 5 7 25 t118 _ A6.out).mono ?_); rintro e w' ⟨rfl, ⟨nd, rfl⟩⟩; refine ⟨_, rfl, ?_⟩))
   go_ret
   exact ⟨by rfl, by repeat (first | exact Drawn0.refl _ | apply Drawn0.step)⟩
  ·rw [if_neg c4] at H
   have c4b0 : (a0 == 25) = false := beq_eq_false_iff_ne.mpr c4
   have c4b1 : (a0 != 25) = true := bne_iff_ne.mpr c4
   have HC7 := Aside0.mk H
   clear H
   go_enter Try.func17, Try.ntmps17
   go_upto_region 6 with (fail)
   go_cut [21] (fun v21 wc => ∃ (kq : Nat) (x21_6 : Bool), v21 = .bool x21_6 ∧ Aside0 (code_number.j0 kq a0 ((a1) % 4294967296) x21_6 = some r) ∧ Aside0 (kq ≤ k) ∧ Drawn0 w wc)
   case first =>
    have H := HC7.out
    clear HC7
    by_cases c8 : a0 = 26
    ·rw [if_pos c8] at H
     have c8b0 : (a0 == 26) = true := beq_iff_eq.mpr c8
     have c8b1 : (a0 != 26) = false := bne_eq_false_iff_eq.mpr c8
     clear c8
     have H' := Aside0.mk H
     clear H
     go_wp2
     go_meet
     case rel => exact ⟨_, (true), (by rfl), H', ⟨by omega⟩, by repeat (exact Drawn0.refl _)⟩
    ·rw [if_neg c8] at H
     have c8b0 : (a0 == 26) = false := beq_eq_false_iff_ne.mpr c8
     have c8b1 : (a0 != 26) = true := bne_iff_ne.mpr c8
     have H' := Aside0.mk H
     clear H
     go_wp2
     go_meet
     case rel => exact ⟨_, ((a0 == 27)), (by rfl), H', ⟨by omega⟩, by repeat (exact Drawn0.refl _)⟩
   case rest =>
    clear HC7 c3 c3b0 c3b1 c4 c4b0 c4b1
    obtain ⟨kq, x21_6, rfl, HA, HJ6, ⟨mc6, rfl⟩⟩ := hcut
    cases kq with
    | zero => exact absurd HA.out (by simp [code_number.j0])
    | succ kj6 =>
     have H := HA.out
     clear HA
     simp only [code_number.j0] at H
     by_cases c9 : x21_6 = true
     ·subst c9
      have H1 : ((code_field.f ((a1) % 4294967296) 1 4 8).bind fun t119 => ((code_field.f ((a1) % 4294967296) 5 6 25).bind fun t120 => ((code_field.f ((a1) % 4294967296) 11 1 7).bind fun t121 => ((code_field.f ((a1) % 4294967296) 12 1 31).bind fun t122 => (some (Go.bits .or .u32 (Go.bits .or .u32 (Go.bits .or .u32 t119 t120) t121) t122)))))) = some r := by rw [if_pos rfl] at H; exact H
      clear H
      have H := H1
      clear H1
      replace H := Option.bind_eq_some_iff.mp H
      obtain ⟨t119, A100, H⟩ := H
      replace H : ((code_field.f ((a1) % 4294967296) 5 6 25).bind fun t120 => ((code_field.f ((a1) % 4294967296) 11 1 7).bind fun t121 => ((code_field.f ((a1) % 4294967296) 12 1 31).bind fun t122 => (some (Go.bits .or .u32 (Go.bits .or .u32 (Go.bits .or .u32 t119 t120) t121) t122))))) = some r := H
      have A10 := Aside0.mk A100
      clear A100
      replace H := Option.bind_eq_some_iff.mp H
      obtain ⟨t120, A110, H⟩ := H
      replace H : ((code_field.f ((a1) % 4294967296) 11 1 7).bind fun t121 => ((code_field.f ((a1) % 4294967296) 12 1 31).bind fun t122 => (some (Go.bits .or .u32 (Go.bits .or .u32 (Go.bits .or .u32 t119 t120) t121) t122)))) = some r := H
      have A11 := Aside0.mk A110
      clear A110
      replace H := Option.bind_eq_some_iff.mp H
      obtain ⟨t121, A120, H⟩ := H
      replace H : ((code_field.f ((a1) % 4294967296) 12 1 31).bind fun t122 => (some (Go.bits .or .u32 (Go.bits .or .u32 (Go.bits .or .u32 t119 t120) t121) t122))) = some r := H
      have A12 := Aside0.mk A120
      clear A120
      replace H := Option.bind_eq_some_iff.mp H
      obtain ⟨t122, A130, H⟩ := H
      replace H : (some (Go.bits .or .u32 (Go.bits .or .u32 (Go.bits .or .u32 t119 t120) t121) t122)) = some r := H
      have A13 := Aside0.mk A130
      clear A130
      obtain rfl := Option.some.inj H
      go_wp2_with (first | ((with_reducible refine gate_callee (f := 35) rfl ?_); refine goesL_ (some 29) rfl rfl Try.func35 (by kernel_rfl) rfl #[.int .u32 ((a1) % 4294967296), .int .i64 1, .int .i64 4, .int .i64 8] rfl (by (try simp only [List.map_toArray, List.map_cons, List.map_nil]); rfl) ?_; (with_reducible refine (code_field.calls ((a1) % 4294967296) 1 4 8 t119 _ A10.out).mono ?_); rintro e w' ⟨rfl, ⟨nd, rfl⟩⟩; refine ⟨_, rfl, ?_⟩) | ((with_reducible refine gate_callee (f := 35) rfl ?_); refine goesL_ (some 31) rfl rfl Try.func35 (by kernel_rfl) rfl #[.int .u32 ((a1) % 4294967296), .int .i64 5, .int .i64 6, .int .i64 25] rfl (by (try simp only [List.map_toArray, List.map_cons, List.map_nil]); rfl) ?_; (with_reducible refine (code_field.calls ((a1) % 4294967296) 5 6 25 t120 _ A11.out).mono ?_); rintro e w' ⟨rfl, ⟨nd, rfl⟩⟩; refine ⟨_, rfl, ?_⟩) | ((with_reducible refine gate_callee (f := 35) rfl ?_); refine goesL_ (some 34) rfl rfl Try.func35 (by kernel_rfl) rfl #[.int .u32 ((a1) % 4294967296), .int .i64 11, .int .i64 1, .int .i64 7] rfl (by (try simp only [List.map_toArray, List.map_cons, List.map_nil]); rfl) ?_; (with_reducible refine (code_field.calls ((a1) % 4294967296) 11 1 7 t121 _ A12.out).mono ?_); rintro e w' ⟨rfl, ⟨nd, rfl⟩⟩; refine ⟨_, rfl, ?_⟩) | ((with_reducible refine gate_callee (f := 35) rfl ?_); refine goesL_ (some 37) rfl rfl Try.func35 (by kernel_rfl) rfl #[.int .u32 ((a1) % 4294967296), .int .i64 12, .int .i64 1, .int .i64 31] rfl (by (try simp only [List.map_toArray, List.map_cons, List.map_nil]); rfl) ?_; (with_reducible refine (code_field.calls ((a1) % 4294967296) 12 1 31 t122 _ A13.out).mono ?_); rintro e w' ⟨rfl, ⟨nd, rfl⟩⟩; refine ⟨_, rfl, ?_⟩))
      go_ret
      exact ⟨by rfl, by repeat (first | exact Drawn0.refl _ | apply Drawn0.step)⟩
     ·replace c9 := Bool.eq_false_iff.mpr c9
      subst c9
      have H1 : (if a0 = 28 then ((code_field.f ((a1) % 4294967296) 1 10 21).bind fun t123 => ((code_field.f ((a1) % 4294967296) 11 1 20).bind fun t124 => ((code_field.f ((a1) % 4294967296) 12 8 12).bind fun t125 => ((code_field.f ((a1) % 4294967296) 20 1 31).bind fun t126 => (some (Go.bits .or .u32 (Go.bits .or .u32 (Go.bits .or .u32 t123 t124) t125) t126)))))) else (if a0 ≥ 2 then (if a0 ≤ 10 then (some ((((a1) % 4294967296) * 1048576) % 4294967296)) else (if a0 = 24 then (some ((((a1) % 4294967296) * 1048576) % 4294967296)) else (if a0 = 29 then (some ((((a1) % 4294967296) * 1048576) % 4294967296)) else (some 0)))) else (if a0 = 24 then (some ((((a1) % 4294967296) * 1048576) % 4294967296)) else (if a0 = 29 then (some ((((a1) % 4294967296) * 1048576) % 4294967296)) else (some 0))))) = some r := by rw [if_neg (show ¬ (false = true) by decide)] at H; exact H
      clear H
      have H := H1
      clear H1
      by_cases c14 : a0 = 28
      ·rw [if_pos c14] at H
       have c14b0 : (a0 == 28) = true := beq_iff_eq.mpr c14
       have c14b1 : (a0 != 28) = false := bne_eq_false_iff_eq.mpr c14
       clear c14
       replace H := Option.bind_eq_some_iff.mp H
       obtain ⟨t123, A150, H⟩ := H
       replace H : ((code_field.f ((a1) % 4294967296) 11 1 20).bind fun t124 => ((code_field.f ((a1) % 4294967296) 12 8 12).bind fun t125 => ((code_field.f ((a1) % 4294967296) 20 1 31).bind fun t126 => (some (Go.bits .or .u32 (Go.bits .or .u32 (Go.bits .or .u32 t123 t124) t125) t126))))) = some r := H
       have A15 := Aside0.mk A150
       clear A150
       replace H := Option.bind_eq_some_iff.mp H
       obtain ⟨t124, A160, H⟩ := H
       replace H : ((code_field.f ((a1) % 4294967296) 12 8 12).bind fun t125 => ((code_field.f ((a1) % 4294967296) 20 1 31).bind fun t126 => (some (Go.bits .or .u32 (Go.bits .or .u32 (Go.bits .or .u32 t123 t124) t125) t126)))) = some r := H
       have A16 := Aside0.mk A160
       clear A160
       replace H := Option.bind_eq_some_iff.mp H
       obtain ⟨t125, A170, H⟩ := H
       replace H : ((code_field.f ((a1) % 4294967296) 20 1 31).bind fun t126 => (some (Go.bits .or .u32 (Go.bits .or .u32 (Go.bits .or .u32 t123 t124) t125) t126))) = some r := H
       have A17 := Aside0.mk A170
       clear A170
       replace H := Option.bind_eq_some_iff.mp H
       obtain ⟨t126, A180, H⟩ := H
       replace H : (some (Go.bits .or .u32 (Go.bits .or .u32 (Go.bits .or .u32 t123 t124) t125) t126)) = some r := H
       have A18 := Aside0.mk A180
       clear A180
       obtain rfl := Option.some.inj H
       go_wp2_with (first | ((with_reducible refine gate_callee (f := 35) rfl ?_); refine goesL_ (some 43) rfl rfl Try.func35 (by kernel_rfl) rfl #[.int .u32 ((a1) % 4294967296), .int .i64 1, .int .i64 10, .int .i64 21] rfl (by (try simp only [List.map_toArray, List.map_cons, List.map_nil]); rfl) ?_; (with_reducible refine (code_field.calls ((a1) % 4294967296) 1 10 21 t123 _ A15.out).mono ?_); rintro e w' ⟨rfl, ⟨nd, rfl⟩⟩; refine ⟨_, rfl, ?_⟩) | ((with_reducible refine gate_callee (f := 35) rfl ?_); refine goesL_ (some 45) rfl rfl Try.func35 (by kernel_rfl) rfl #[.int .u32 ((a1) % 4294967296), .int .i64 11, .int .i64 1, .int .i64 20] rfl (by (try simp only [List.map_toArray, List.map_cons, List.map_nil]); rfl) ?_; (with_reducible refine (code_field.calls ((a1) % 4294967296) 11 1 20 t124 _ A16.out).mono ?_); rintro e w' ⟨rfl, ⟨nd, rfl⟩⟩; refine ⟨_, rfl, ?_⟩) | ((with_reducible refine gate_callee (f := 35) rfl ?_); refine goesL_ (some 48) rfl rfl Try.func35 (by kernel_rfl) rfl #[.int .u32 ((a1) % 4294967296), .int .i64 12, .int .i64 8, .int .i64 12] rfl (by (try simp only [List.map_toArray, List.map_cons, List.map_nil]); rfl) ?_; (with_reducible refine (code_field.calls ((a1) % 4294967296) 12 8 12 t125 _ A17.out).mono ?_); rintro e w' ⟨rfl, ⟨nd, rfl⟩⟩; refine ⟨_, rfl, ?_⟩) | ((with_reducible refine gate_callee (f := 35) rfl ?_); refine goesL_ (some 51) rfl rfl Try.func35 (by kernel_rfl) rfl #[.int .u32 ((a1) % 4294967296), .int .i64 20, .int .i64 1, .int .i64 31] rfl (by (try simp only [List.map_toArray, List.map_cons, List.map_nil]); rfl) ?_; (with_reducible refine (code_field.calls ((a1) % 4294967296) 20 1 31 t126 _ A18.out).mono ?_); rintro e w' ⟨rfl, ⟨nd, rfl⟩⟩; refine ⟨_, rfl, ?_⟩))
       go_ret
       exact ⟨by rfl, by repeat (first | exact Drawn0.refl _ | apply Drawn0.step)⟩
      ·rw [if_neg c14] at H
       have c14b0 : (a0 == 28) = false := beq_eq_false_iff_ne.mpr c14
       have c14b1 : (a0 != 28) = true := bne_iff_ne.mpr c14
       by_cases c19 : a0 ≥ 2
       ·rw [if_pos c19] at H
        have c19b0 : decide (2 ≤ a0) = true := decide_eq_true c19
        clear c19
        by_cases c20 : a0 ≤ 10
        ·rw [if_pos c20] at H
         have c20b0 : decide (a0 ≤ 10) = true := decide_eq_true c20
         clear c20
         obtain rfl := Option.some.inj H
         go_wp2
         go_ret
         exact ⟨by rfl, by repeat (first | exact Drawn0.refl _ | apply Drawn0.step)⟩
        ·rw [if_neg c20] at H
         have c20b0 : decide (a0 ≤ 10) = false := decide_eq_false c20
         clear c20
         by_cases c21 : a0 = 24
         ·rw [if_pos c21] at H
          have c21b0 : (a0 == 24) = true := beq_iff_eq.mpr c21
          have c21b1 : (a0 != 24) = false := bne_eq_false_iff_eq.mpr c21
          clear c21
          obtain rfl := Option.some.inj H
          go_wp2
          go_ret
          exact ⟨by rfl, by repeat (first | exact Drawn0.refl _ | apply Drawn0.step)⟩
         ·rw [if_neg c21] at H
          have c21b0 : (a0 == 24) = false := beq_eq_false_iff_ne.mpr c21
          have c21b1 : (a0 != 24) = true := bne_iff_ne.mpr c21
          by_cases c22 : a0 = 29
          ·rw [if_pos c22] at H
           have c22b0 : (a0 == 29) = true := beq_iff_eq.mpr c22
           have c22b1 : (a0 != 29) = false := bne_eq_false_iff_eq.mpr c22
           clear c22
           obtain rfl := Option.some.inj H
           go_wp2
           go_ret
           exact ⟨by rfl, by repeat (first | exact Drawn0.refl _ | apply Drawn0.step)⟩
          ·rw [if_neg c22] at H
           have c22b0 : (a0 == 29) = false := beq_eq_false_iff_ne.mpr c22
           have c22b1 : (a0 != 29) = true := bne_iff_ne.mpr c22
           obtain rfl := Option.some.inj H
           go_wp2
           go_ret
           exact ⟨by rfl, by repeat (first | exact Drawn0.refl _ | apply Drawn0.step)⟩
       ·rw [if_neg c19] at H
        have c19b0 : decide (2 ≤ a0) = false := decide_eq_false c19
        clear c19
        by_cases c23 : a0 = 24
        ·rw [if_pos c23] at H
         have c23b0 : (a0 == 24) = true := beq_iff_eq.mpr c23
         have c23b1 : (a0 != 24) = false := bne_eq_false_iff_eq.mpr c23
         clear c23
         obtain rfl := Option.some.inj H
         go_wp2
         go_ret
         exact ⟨by rfl, by repeat (first | exact Drawn0.refl _ | apply Drawn0.step)⟩
        ·rw [if_neg c23] at H
         have c23b0 : (a0 == 24) = false := beq_eq_false_iff_ne.mpr c23
         have c23b1 : (a0 != 24) = true := bne_iff_ne.mpr c23
         by_cases c24 : a0 = 29
         ·rw [if_pos c24] at H
          have c24b0 : (a0 == 29) = true := beq_iff_eq.mpr c24
          have c24b1 : (a0 != 29) = false := bne_eq_false_iff_eq.mpr c24
          clear c24
          obtain rfl := Option.some.inj H
          go_wp2
          go_ret
          exact ⟨by rfl, by repeat (first | exact Drawn0.refl _ | apply Drawn0.step)⟩
         ·rw [if_neg c24] at H
          have c24b0 : (a0 == 29) = false := beq_eq_false_iff_ne.mpr c24
          have c24b1 : (a0 != 29) = true := bne_iff_ne.mpr c24
          obtain rfl := Option.some.inj H
          go_wp2
          go_ret
          exact ⟨by rfl, by repeat (first | exact Drawn0.refl _ | apply Drawn0.step)⟩

/-! ### code_Encode: function 8 -/
def code_Encode.j0 : Nat → Bool → Int → Int → Int → Int → Int → Int → ByteArray → Option (Int × Bool)
 | 0, _, _, _, _, _, _, _, _ => none
 | k + 1, x16, x128000, x128001, x128002, x128003, x128004, x128005, x128006 => if x16 = true then (some (0, false)) else ((code_fixed.f x128001).bind fun t129 => ((code_number.f k x128001 x128005).bind fun t130 => (some (Go.bits .or .u32 (Go.bits .or .u32 (Go.bits .or .u32 (Go.bits .or .u32 t129 ((((x128002) % 4294967296) * 128) % 4294967296)) ((((x128003) % 4294967296) * 32768) % 4294967296)) ((((x128004) % 4294967296) * 1048576) % 4294967296)) t130, true))))
def code_Encode.f (k : Nat) (a0_0 : Int) (a0_1 : Int) (a0_2 : Int) (a0_3 : Int) (a0_4 : Int) (a0_5 : Int) (a0_6 : ByteArray) : Option (Int × Bool) := if a0_0 = 2 then (if a0_6.toList = ([] : List UInt8) then ((asm_MayLine.f k a0_0 a0_1 a0_2 a0_3 a0_4 a0_5 a0_6).bind fun t128 => (code_Encode.j0 k (!t128) a0_0 a0_1 a0_2 a0_3 a0_4 a0_5 a0_6)) else (code_Encode.j0 k true a0_0 a0_1 a0_2 a0_3 a0_4 a0_5 a0_6)) else (code_Encode.j0 k true a0_0 a0_1 a0_2 a0_3 a0_4 a0_5 a0_6)
theorem code_Encode.mono_l : ∀ k, (∀ y0 y1 y2 y3 y4 y5 y6 y7, LeO (code_Encode.j0 k y0 y1 y2 y3 y4 y5 y6 y7) (code_Encode.j0 (k + 1) y0 y1 y2 y3 y4 y5 y6 y7))
 | 0 => fun _ _ _ _ _ _ _ _ r h => by simp [code_Encode.j0] at h
 | k + 1 => by
  have ih0 := code_Encode.mono_l k
  ·intro y0 y1 y2 y3 y4 y5 y6 y7
   unfold code_Encode.j0
   repeat' first
   | (with_reducible exact ih0 _ _ _ _ _ _ _ _)
   | (with_reducible exact asm_MayLine.mono _ _ _ _ _ _ _ _)
   | (with_reducible exact code_number.mono _ _ _)
   | (with_reducible exact LeO.refl _)
   | (with_reducible exact LeO.none _)
   | (with_reducible refine LeO.ite ?_ ?_)
   | (with_reducible refine LeO.bind ?_ (fun _ => ?_))
   | exact ih0 _ _ _ _ _ _ _ _
   | exact asm_MayLine.mono _ _ _ _ _ _ _ _
   | exact code_number.mono _ _ _
   | exact LeO.none _
   | refine LeO.ite ?_ ?_
   | refine LeO.bind ?_ (fun _ => ?_)
theorem code_Encode.mono : ∀ a0 a1 a2 a3 a4 a5 a6 k, LeO (code_Encode.f k a0 a1 a2 a3 a4 a5 a6) (code_Encode.f (k + 1) a0 a1 a2 a3 a4 a5 a6) := by
 intro a0 a1 a2 a3 a4 a5 a6 k
 have ih0 := code_Encode.mono_l k
 unfold code_Encode.f
 repeat' first
   | (with_reducible exact ih0 _ _ _ _ _ _ _ _)
   | (with_reducible exact asm_MayLine.mono _ _ _ _ _ _ _ _)
   | (with_reducible exact code_number.mono _ _ _)
   | (with_reducible exact LeO.refl _)
   | (with_reducible exact LeO.none _)
   | (with_reducible refine LeO.ite ?_ ?_)
   | (with_reducible refine LeO.bind ?_ (fun _ => ?_))
   | exact ih0 _ _ _ _ _ _ _ _
   | exact asm_MayLine.mono _ _ _ _ _ _ _ _
   | exact code_number.mono _ _ _
   | exact LeO.none _
   | refine LeO.ite ?_ ?_
   | refine LeO.bind ?_ (fun _ => ?_)
set_option maxHeartbeats 8000000 in
set_option maxRecDepth 100000 in
theorem code_Encode.calls (k : Nat) (a0_0 : Int) (a0_1 : Int) (a0_2 : Int) (a0_3 : Int) (a0_4 : Int) (a0_5 : Int) (a0_6 : ByteArray) (r1 : Int) (r2 : Bool) (w : World) (h : code_Encode.f k a0_0 a0_1 a0_2 a0_3 a0_4 a0_5 a0_6 = some (r1, r2)) :
  Calls Try.prog 8 #[.agg #[.int .i64 a0_0, .int .i64 a0_1, .int .i64 a0_2, .int .i64 a0_3, .int .i64 a0_4, .int .i32 a0_5, .string a0_6]] w fun e w' => e = .returned (.tuple #[.int .u32 r1, .bool r2]) ∧ Below w.heap.size w w' := by
 have hu23 := Try.underlying23
 have HB := Aside0.mk (Below.refl w.heap.size w)
 have H : (if a0_0 = 2 then (if a0_6.toList = ([] : List UInt8) then ((asm_MayLine.f k a0_0 a0_1 a0_2 a0_3 a0_4 a0_5 a0_6).bind fun t128 => (code_Encode.j0 k (!t128) a0_0 a0_1 a0_2 a0_3 a0_4 a0_5 a0_6)) else (code_Encode.j0 k true a0_0 a0_1 a0_2 a0_3 a0_4 a0_5 a0_6)) else (code_Encode.j0 k true a0_0 a0_1 a0_2 a0_3 a0_4 a0_5 a0_6)) = some (r1, r2) := h
 clear h
 have HC2 := Aside0.mk H
 clear H
 go_enter Try.func8, Try.ntmps8
 go_upto_region 1 with (((with_reducible refine gate_dst (N := 1) rfl ?_); refine box_event ?hg (N := 1) ?hd (cs := #[.int .i64 a0_0, .int .i64 a0_1, .int .i64 a0_2, .int .i64 a0_3, .int .i64 a0_4, .int .i32 a0_5, .string a0_6]) (t := 23) ?hr ?_; (case hd => rfl); (case hg => rfl); (case hr => (go_simp; done)); intro gb127 hg w3 hbox hb; have n0_ := Aside0.mk (below_step (by repeat ((with_reducible exact HB.out))) hb); have n1_ := Aside0.mk (hbox); have n2_ := Aside0.mk ((by rw [hg]; exact (below_size (by repeat ((with_reducible exact HB.out)))) : w.heap.size ≤ gb127)); have n3_ := Aside0.mk ((by rw [hg]; exact (below_size (by repeat ((with_reducible exact HB.out)))) : w.heap.size ≤ gb127)); clear HB; have HB := n0_; have BK127 := n1_; have GW127 := n2_; have GE127 := n3_; clear n0_ n1_ n2_ n3_; clear hb hbox hg))
 go_cut [16] (fun v16 wc => ∃ (kq : Nat) (x16_1 : Bool), v16 = .bool x16_1 ∧ Aside0 (code_Encode.j0 kq x16_1 a0_0 a0_1 a0_2 a0_3 a0_4 a0_5 a0_6 = some (r1, r2)) ∧ Aside0 (kq ≤ k) ∧ Aside0 (wc.heap[gb127]? = some (.cells #[.int .i64 a0_0, .int .i64 a0_1, .int .i64 a0_2, .int .i64 a0_3, .int .i64 a0_4, .int .i32 a0_5, .string a0_6] 23 (0, 0))) ∧ Aside0 (Below w.heap.size w wc))
 case first =>
  have H := HC2.out
  clear HC2
  by_cases c4 : a0_0 = 2
  ·rw [if_pos c4] at H
   have c4b0 : (a0_0 == 2) = true := beq_iff_eq.mpr c4
   have c4b1 : (a0_0 != 2) = false := bne_eq_false_iff_eq.mpr c4
   clear c4
   by_cases c5 : a0_6.toList = ([] : List UInt8)
   ·rw [if_pos c5] at H
    have c5b0 : (a0_6.toList == ([] : List UInt8)) = true := beq_iff_eq.mpr c5
    have c5b1 : (a0_6.toList != ([] : List UInt8)) = false := bne_eq_false_iff_eq.mpr c5
    clear c5
    replace H := Option.bind_eq_some_iff.mp H
    obtain ⟨t128, A60, H⟩ := H
    replace H : (code_Encode.j0 k (!t128) a0_0 a0_1 a0_2 a0_3 a0_4 a0_5 a0_6) = some (r1, r2) := H
    have A6 := Aside0.mk A60
    clear A60
    have H' := Aside0.mk H
    clear H
    have hcz7_0 : w3.cell? ⟨gb127, 0, none⟩ = some (.int .i64 a0_0) := (blk_cell BK127.out 0).trans rfl
    have hcz7_1 : w3.cell? ⟨gb127, 1, none⟩ = some (.int .i64 a0_1) := (blk_cell BK127.out 1).trans rfl
    have hcz7_2 : w3.cell? ⟨gb127, 2, none⟩ = some (.int .i64 a0_2) := (blk_cell BK127.out 2).trans rfl
    have hcz7_3 : w3.cell? ⟨gb127, 3, none⟩ = some (.int .i64 a0_3) := (blk_cell BK127.out 3).trans rfl
    have hcz7_4 : w3.cell? ⟨gb127, 4, none⟩ = some (.int .i64 a0_4) := (blk_cell BK127.out 4).trans rfl
    have hcz7_5 : w3.cell? ⟨gb127, 5, none⟩ = some (.int .i32 a0_5) := (blk_cell BK127.out 5).trans rfl
    have hcz7_6 : w3.cell? ⟨gb127, 6, none⟩ = some (.string a0_6) := (blk_cell BK127.out 6).trans rfl
    have hfz7_0 := blk_frozen BK127.out 0
    have hfz7_1 := blk_frozen BK127.out 1
    have hfz7_2 := blk_frozen BK127.out 2
    have hfz7_3 := blk_frozen BK127.out 3
    have hfz7_4 := blk_frozen BK127.out 4
    have hfz7_5 := blk_frozen BK127.out 5
    have hfz7_6 := blk_frozen BK127.out 6
    go_wp2_with ((go_at_call 15; (with_reducible refine (asm_MayLine.calls k a0_0 a0_1 a0_2 a0_3 a0_4 a0_5 a0_6 t128 _ A6.out).mono ?_); rintro e w8 ⟨rfl, hb⟩; have n0_ := Aside0.mk (blk_below (g := gb127) (o := .cells #[.int .i64 a0_0, .int .i64 a0_1, .int .i64 a0_2, .int .i64 a0_3, .int .i64 a0_4, .int .i32 a0_5, .string a0_6] 23 (0, 0)) (by (with_reducible repeat (fail)); exact BK127.out) hb); have n1_ := Aside0.mk (below_step (by repeat ((with_reducible exact HB.out))) hb); clear BK127; clear HB; have BK127 := n0_; have HB := n1_; clear n0_ n1_; (try clear hb)))
    go_meet
    case rel => exact ⟨_, (!t128), (by rfl), H', ⟨by omega⟩, ⟨by (with_reducible repeat (fail)); exact BK127.out⟩, ⟨by repeat ((with_reducible exact HB.out))⟩⟩
   ·rw [if_neg c5] at H
    have c5b0 : (a0_6.toList == ([] : List UInt8)) = false := beq_eq_false_iff_ne.mpr c5
    have c5b1 : (a0_6.toList != ([] : List UInt8)) = true := bne_iff_ne.mpr c5
    have H' := Aside0.mk H
    clear H
    have hcz9_0 : w3.cell? ⟨gb127, 0, none⟩ = some (.int .i64 a0_0) := (blk_cell BK127.out 0).trans rfl
    have hcz9_1 : w3.cell? ⟨gb127, 1, none⟩ = some (.int .i64 a0_1) := (blk_cell BK127.out 1).trans rfl
    have hcz9_2 : w3.cell? ⟨gb127, 2, none⟩ = some (.int .i64 a0_2) := (blk_cell BK127.out 2).trans rfl
    have hcz9_3 : w3.cell? ⟨gb127, 3, none⟩ = some (.int .i64 a0_3) := (blk_cell BK127.out 3).trans rfl
    have hcz9_4 : w3.cell? ⟨gb127, 4, none⟩ = some (.int .i64 a0_4) := (blk_cell BK127.out 4).trans rfl
    have hcz9_5 : w3.cell? ⟨gb127, 5, none⟩ = some (.int .i32 a0_5) := (blk_cell BK127.out 5).trans rfl
    have hcz9_6 : w3.cell? ⟨gb127, 6, none⟩ = some (.string a0_6) := (blk_cell BK127.out 6).trans rfl
    have hfz9_0 := blk_frozen BK127.out 0
    have hfz9_1 := blk_frozen BK127.out 1
    have hfz9_2 := blk_frozen BK127.out 2
    have hfz9_3 := blk_frozen BK127.out 3
    have hfz9_4 := blk_frozen BK127.out 4
    have hfz9_5 := blk_frozen BK127.out 5
    have hfz9_6 := blk_frozen BK127.out 6
    go_wp2
    go_meet
    case rel => exact ⟨_, (true), (by rfl), H', ⟨by omega⟩, ⟨by (with_reducible repeat (fail)); exact BK127.out⟩, ⟨by repeat ((with_reducible exact HB.out))⟩⟩
  ·rw [if_neg c4] at H
   have c4b0 : (a0_0 == 2) = false := beq_eq_false_iff_ne.mpr c4
   have c4b1 : (a0_0 != 2) = true := bne_iff_ne.mpr c4
   have H' := Aside0.mk H
   clear H
   have hcz10_0 : w3.cell? ⟨gb127, 0, none⟩ = some (.int .i64 a0_0) := (blk_cell BK127.out 0).trans rfl
   have hcz10_1 : w3.cell? ⟨gb127, 1, none⟩ = some (.int .i64 a0_1) := (blk_cell BK127.out 1).trans rfl
   have hcz10_2 : w3.cell? ⟨gb127, 2, none⟩ = some (.int .i64 a0_2) := (blk_cell BK127.out 2).trans rfl
   have hcz10_3 : w3.cell? ⟨gb127, 3, none⟩ = some (.int .i64 a0_3) := (blk_cell BK127.out 3).trans rfl
   have hcz10_4 : w3.cell? ⟨gb127, 4, none⟩ = some (.int .i64 a0_4) := (blk_cell BK127.out 4).trans rfl
   have hcz10_5 : w3.cell? ⟨gb127, 5, none⟩ = some (.int .i32 a0_5) := (blk_cell BK127.out 5).trans rfl
   have hcz10_6 : w3.cell? ⟨gb127, 6, none⟩ = some (.string a0_6) := (blk_cell BK127.out 6).trans rfl
   have hfz10_0 := blk_frozen BK127.out 0
   have hfz10_1 := blk_frozen BK127.out 1
   have hfz10_2 := blk_frozen BK127.out 2
   have hfz10_3 := blk_frozen BK127.out 3
   have hfz10_4 := blk_frozen BK127.out 4
   have hfz10_5 := blk_frozen BK127.out 5
   have hfz10_6 := blk_frozen BK127.out 6
   go_wp2
   go_meet
   case rel => exact ⟨_, (true), (by rfl), H', ⟨by omega⟩, ⟨by (with_reducible repeat (fail)); exact BK127.out⟩, ⟨by repeat ((with_reducible exact HB.out))⟩⟩
 case rest =>
  clear HC2
  obtain ⟨kq, x16_1, rfl, HA, HJ1, BK127, HB⟩ := hcut
  cases kq with
  | zero => exact absurd HA.out (by simp [code_Encode.j0])
  | succ kj1 =>
   have H := HA.out
   clear HA
   simp only [code_Encode.j0] at H
   by_cases c11 : x16_1 = true
   ·subst c11
    have H1 : (some (0, false)) = some (r1, r2) := by rw [if_pos rfl] at H; exact H
    clear H
    have H := H1
    clear H1
    simp only [Option.some.injEq, Prod.mk.injEq] at H
    obtain ⟨rfl, rfl⟩ := H
    go_wp2
    go_ret2
    exact ⟨by rfl, by repeat ((with_reducible exact HB.out))⟩
   ·replace c11 := Bool.eq_false_iff.mpr c11
    subst c11
    have H1 : ((code_fixed.f a0_1).bind fun t129 => ((code_number.f kj1 a0_1 a0_5).bind fun t130 => (some (Go.bits .or .u32 (Go.bits .or .u32 (Go.bits .or .u32 (Go.bits .or .u32 t129 ((((a0_2) % 4294967296) * 128) % 4294967296)) ((((a0_3) % 4294967296) * 32768) % 4294967296)) ((((a0_4) % 4294967296) * 1048576) % 4294967296)) t130, true)))) = some (r1, r2) := by rw [if_neg (show ¬ (false = true) by decide)] at H; exact H
    clear H
    have H := H1
    clear H1
    replace H := Option.bind_eq_some_iff.mp H
    obtain ⟨t129, A120, H⟩ := H
    replace H : ((code_number.f kj1 a0_1 a0_5).bind fun t130 => (some (Go.bits .or .u32 (Go.bits .or .u32 (Go.bits .or .u32 (Go.bits .or .u32 t129 ((((a0_2) % 4294967296) * 128) % 4294967296)) ((((a0_3) % 4294967296) * 32768) % 4294967296)) ((((a0_4) % 4294967296) * 1048576) % 4294967296)) t130, true))) = some (r1, r2) := H
    have A12 := Aside0.mk A120
    clear A120
    replace H := Option.bind_eq_some_iff.mp H
    obtain ⟨t130, A130, H⟩ := H
    replace H : (some (Go.bits .or .u32 (Go.bits .or .u32 (Go.bits .or .u32 (Go.bits .or .u32 t129 ((((a0_2) % 4294967296) * 128) % 4294967296)) ((((a0_3) % 4294967296) * 32768) % 4294967296)) ((((a0_4) % 4294967296) * 1048576) % 4294967296)) t130, true)) = some (r1, r2) := H
    have A13 := Aside0.mk A130
    clear A130
    simp only [Option.some.injEq, Prod.mk.injEq] at H
    obtain ⟨rfl, rfl⟩ := H
    have hcz14_0 : wc.cell? ⟨gb127, 0, none⟩ = some (.int .i64 a0_0) := (blk_cell BK127.out 0).trans rfl
    have hcz14_1 : wc.cell? ⟨gb127, 1, none⟩ = some (.int .i64 a0_1) := (blk_cell BK127.out 1).trans rfl
    have hcz14_2 : wc.cell? ⟨gb127, 2, none⟩ = some (.int .i64 a0_2) := (blk_cell BK127.out 2).trans rfl
    have hcz14_3 : wc.cell? ⟨gb127, 3, none⟩ = some (.int .i64 a0_3) := (blk_cell BK127.out 3).trans rfl
    have hcz14_4 : wc.cell? ⟨gb127, 4, none⟩ = some (.int .i64 a0_4) := (blk_cell BK127.out 4).trans rfl
    have hcz14_5 : wc.cell? ⟨gb127, 5, none⟩ = some (.int .i32 a0_5) := (blk_cell BK127.out 5).trans rfl
    have hcz14_6 : wc.cell? ⟨gb127, 6, none⟩ = some (.string a0_6) := (blk_cell BK127.out 6).trans rfl
    have hfz14_0 := blk_frozen BK127.out 0
    have hfz14_1 := blk_frozen BK127.out 1
    have hfz14_2 := blk_frozen BK127.out 2
    have hfz14_3 := blk_frozen BK127.out 3
    have hfz14_4 := blk_frozen BK127.out 4
    have hfz14_5 := blk_frozen BK127.out 5
    have hfz14_6 := blk_frozen BK127.out 6
    go_wp2_with (fail)
    repeat (go_quiet (first | (go_at_call 16; (with_reducible refine (code_fixed.calls a0_1 t129 _ A12.out).mono ?_); rintro e w' ⟨rfl, ⟨nd, rfl⟩⟩; (try exact ⟨rfl, xdn⟩)) | (go_at_call 17; (with_reducible refine (code_number.calls kj1 a0_1 a0_5 t130 _ A13.out).mono ?_); rintro e w' ⟨rfl, ⟨nd, rfl⟩⟩; (try exact ⟨rfl, xdn⟩))); try go_wp2_with (fail))
    go_ret2
    exact ⟨by rfl, by repeat ((with_reducible first | exact HB.out | apply pw_below_drewN))⟩

/-! ### brazierlaw19_lives: function 7 -/
def brazierlaw19_lives.f (k : Nat)  : Option (Bool) := (code_Encode.f k 2 2 5 0 0 (-1) (⟨#[]⟩ : ByteArray)).bind fun bt131 => ((code_Encode.f k 2 30 0 0 0 0 (⟨#[]⟩ : ByteArray)).bind fun bt133 => (if bt131.2 = true then (if bt133.2 = true then (if bt131.1 = 4293919379 then (some (bt133.1 == 115)) else (some false)) else (some false)) else (some false)))
theorem brazierlaw19_lives.mono : ∀ k, LeO (brazierlaw19_lives.f k ) (brazierlaw19_lives.f (k + 1) ) := by
 intro  k
 unfold brazierlaw19_lives.f
 repeat' first
   | (with_reducible exact code_Encode.mono _ _ _ _ _ _ _ _)
   | (with_reducible exact LeO.refl _)
   | (with_reducible exact LeO.none _)
   | (with_reducible refine LeO.ite ?_ ?_)
   | (with_reducible refine LeO.bind ?_ (fun _ => ?_))
   | exact code_Encode.mono _ _ _ _ _ _ _ _
   | exact LeO.none _
   | refine LeO.ite ?_ ?_
   | refine LeO.bind ?_ (fun _ => ?_)
set_option maxHeartbeats 8000000 in
set_option maxRecDepth 100000 in
theorem brazierlaw19_lives.calls (k : Nat)  (r : Bool) (w : World) (h : brazierlaw19_lives.f k  = some r) :
  Calls Try.prog 7 #[] w fun e w' => e = .returned (.bool r) ∧ Below w.heap.size w w' := by
 have hu23 := Try.underlying23
 have HB := Aside0.mk (Below.refl w.heap.size w)
 have H : ((code_Encode.f k 2 2 5 0 0 (-1) (⟨#[]⟩ : ByteArray)).bind fun bt131 => ((code_Encode.f k 2 30 0 0 0 0 (⟨#[]⟩ : ByteArray)).bind fun bt133 => (if bt131.2 = true then (if bt133.2 = true then (if bt131.1 = 4293919379 then (some (bt133.1 == 115)) else (some false)) else (some false)) else (some false)))) = some r := h
 clear h
 replace H := Option.bind_eq_some_iff.mp H
 obtain ⟨⟨t131, t132⟩, A10, H⟩ := H
 replace H : ((code_Encode.f k 2 30 0 0 0 0 (⟨#[]⟩ : ByteArray)).bind fun bt133 => (if t132 = true then (if bt133.2 = true then (if t131 = 4293919379 then (some (bt133.1 == 115)) else (some false)) else (some false)) else (some false))) = some r := H
 have A1 := Aside0.mk A10
 clear A10
 replace H := Option.bind_eq_some_iff.mp H
 obtain ⟨⟨t133, t134⟩, A20, H⟩ := H
 replace H : (if t132 = true then (if t134 = true then (if t131 = 4293919379 then (some (t133 == 115)) else (some false)) else (some false)) else (some false)) = some r := H
 have A2 := Aside0.mk A20
 clear A20
 by_cases c3 : t132 = true
 ·subst c3
  have H1 : (if t134 = true then (if t131 = 4293919379 then (some (t133 == 115)) else (some false)) else (some false)) = some r := by rw [if_pos rfl] at H; exact H
  clear H
  have H := H1
  clear H1
  by_cases c4 : t134 = true
  ·subst c4
   have H1 : (if t131 = 4293919379 then (some (t133 == 115)) else (some false)) = some r := by rw [if_pos rfl] at H; exact H
   clear H
   have H := H1
   clear H1
   by_cases c5 : t131 = 4293919379
   ·rw [if_pos c5] at H
    have c5b0 : (t131 == 4293919379) = true := beq_iff_eq.mpr c5
    have c5b1 : (t131 != 4293919379) = false := bne_eq_false_iff_eq.mpr c5
    clear c5
    obtain rfl := Option.some.inj H
    go_enter Try.func7, Try.ntmps7
    go_wp2_with (first | ((with_reducible refine gate_callee (f := 8) rfl ?_); refine goesL_ (some 7) rfl rfl Try.func8 (by kernel_rfl) rfl #[.agg #[.int .i64 2, .int .i64 2, .int .i64 5, .int .i64 0, .int .i64 0, .int .i32 (-1), .string (⟨#[]⟩ : ByteArray)]] rfl (by (try simp only [List.map_toArray, List.map_cons, List.map_nil]); rfl) ?_; (with_reducible refine (code_Encode.calls k 2 2 5 0 0 (-1) (⟨#[]⟩ : ByteArray) t131 true _ A1.out).mono ?_); rintro e w6 ⟨rfl, hb⟩; refine ⟨_, rfl, ?_⟩; have n0_ := Aside0.mk (below_step (by repeat ((with_reducible exact HB.out))) hb); clear HB; have HB := n0_; clear n0_; (try clear hb)) | ((with_reducible refine gate_callee (f := 8) rfl ?_); refine goesL_ (some 12) rfl rfl Try.func8 (by kernel_rfl) rfl #[.agg #[.int .i64 2, .int .i64 30, .int .i64 0, .int .i64 0, .int .i64 0, .int .i32 0, .string (⟨#[]⟩ : ByteArray)]] rfl (by (try simp only [List.map_toArray, List.map_cons, List.map_nil]); rfl) ?_; (with_reducible refine (code_Encode.calls k 2 30 0 0 0 0 (⟨#[]⟩ : ByteArray) t133 true _ A2.out).mono ?_); rintro e w7 ⟨rfl, hb⟩; refine ⟨_, rfl, ?_⟩; have n0_ := Aside0.mk (below_step (by repeat ((with_reducible exact HB.out))) hb); clear HB; have HB := n0_; clear n0_; (try clear hb)))
    go_ret
    exact ⟨by rfl, by repeat ((with_reducible exact HB.out))⟩
   ·rw [if_neg c5] at H
    have c5b0 : (t131 == 4293919379) = false := beq_eq_false_iff_ne.mpr c5
    have c5b1 : (t131 != 4293919379) = true := bne_iff_ne.mpr c5
    obtain rfl := Option.some.inj H
    go_enter Try.func7, Try.ntmps7
    go_wp2_with (first | ((with_reducible refine gate_callee (f := 8) rfl ?_); refine goesL_ (some 7) rfl rfl Try.func8 (by kernel_rfl) rfl #[.agg #[.int .i64 2, .int .i64 2, .int .i64 5, .int .i64 0, .int .i64 0, .int .i32 (-1), .string (⟨#[]⟩ : ByteArray)]] rfl (by (try simp only [List.map_toArray, List.map_cons, List.map_nil]); rfl) ?_; (with_reducible refine (code_Encode.calls k 2 2 5 0 0 (-1) (⟨#[]⟩ : ByteArray) t131 true _ A1.out).mono ?_); rintro e w8 ⟨rfl, hb⟩; refine ⟨_, rfl, ?_⟩; have n0_ := Aside0.mk (below_step (by repeat ((with_reducible exact HB.out))) hb); clear HB; have HB := n0_; clear n0_; (try clear hb)) | ((with_reducible refine gate_callee (f := 8) rfl ?_); refine goesL_ (some 12) rfl rfl Try.func8 (by kernel_rfl) rfl #[.agg #[.int .i64 2, .int .i64 30, .int .i64 0, .int .i64 0, .int .i64 0, .int .i32 0, .string (⟨#[]⟩ : ByteArray)]] rfl (by (try simp only [List.map_toArray, List.map_cons, List.map_nil]); rfl) ?_; (with_reducible refine (code_Encode.calls k 2 30 0 0 0 0 (⟨#[]⟩ : ByteArray) t133 true _ A2.out).mono ?_); rintro e w9 ⟨rfl, hb⟩; refine ⟨_, rfl, ?_⟩; have n0_ := Aside0.mk (below_step (by repeat ((with_reducible exact HB.out))) hb); clear HB; have HB := n0_; clear n0_; (try clear hb)))
    go_ret
    exact ⟨by rfl, by repeat ((with_reducible exact HB.out))⟩
  ·replace c4 := Bool.eq_false_iff.mpr c4
   subst c4
   have H1 : (some false) = some r := by rw [if_neg (show ¬ (false = true) by decide)] at H; exact H
   clear H
   have H := H1
   clear H1
   obtain rfl := Option.some.inj H
   go_enter Try.func7, Try.ntmps7
   go_wp2_with (first | ((with_reducible refine gate_callee (f := 8) rfl ?_); refine goesL_ (some 7) rfl rfl Try.func8 (by kernel_rfl) rfl #[.agg #[.int .i64 2, .int .i64 2, .int .i64 5, .int .i64 0, .int .i64 0, .int .i32 (-1), .string (⟨#[]⟩ : ByteArray)]] rfl (by (try simp only [List.map_toArray, List.map_cons, List.map_nil]); rfl) ?_; (with_reducible refine (code_Encode.calls k 2 2 5 0 0 (-1) (⟨#[]⟩ : ByteArray) t131 true _ A1.out).mono ?_); rintro e w10 ⟨rfl, hb⟩; refine ⟨_, rfl, ?_⟩; have n0_ := Aside0.mk (below_step (by repeat ((with_reducible exact HB.out))) hb); clear HB; have HB := n0_; clear n0_; (try clear hb)) | ((with_reducible refine gate_callee (f := 8) rfl ?_); refine goesL_ (some 12) rfl rfl Try.func8 (by kernel_rfl) rfl #[.agg #[.int .i64 2, .int .i64 30, .int .i64 0, .int .i64 0, .int .i64 0, .int .i32 0, .string (⟨#[]⟩ : ByteArray)]] rfl (by (try simp only [List.map_toArray, List.map_cons, List.map_nil]); rfl) ?_; (with_reducible refine (code_Encode.calls k 2 30 0 0 0 0 (⟨#[]⟩ : ByteArray) t133 false _ A2.out).mono ?_); rintro e w11 ⟨rfl, hb⟩; refine ⟨_, rfl, ?_⟩; have n0_ := Aside0.mk (below_step (by repeat ((with_reducible exact HB.out))) hb); clear HB; have HB := n0_; clear n0_; (try clear hb)))
   go_ret
   exact ⟨by rfl, by repeat ((with_reducible exact HB.out))⟩
 ·replace c3 := Bool.eq_false_iff.mpr c3
  subst c3
  have H1 : (some false) = some r := by rw [if_neg (show ¬ (false = true) by decide)] at H; exact H
  clear H
  have H := H1
  clear H1
  obtain rfl := Option.some.inj H
  go_enter Try.func7, Try.ntmps7
  go_wp2_with (first | ((with_reducible refine gate_callee (f := 8) rfl ?_); refine goesL_ (some 7) rfl rfl Try.func8 (by kernel_rfl) rfl #[.agg #[.int .i64 2, .int .i64 2, .int .i64 5, .int .i64 0, .int .i64 0, .int .i32 (-1), .string (⟨#[]⟩ : ByteArray)]] rfl (by (try simp only [List.map_toArray, List.map_cons, List.map_nil]); rfl) ?_; (with_reducible refine (code_Encode.calls k 2 2 5 0 0 (-1) (⟨#[]⟩ : ByteArray) t131 false _ A1.out).mono ?_); rintro e w12 ⟨rfl, hb⟩; refine ⟨_, rfl, ?_⟩; have n0_ := Aside0.mk (below_step (by repeat ((with_reducible exact HB.out))) hb); clear HB; have HB := n0_; clear n0_; (try clear hb)) | ((with_reducible refine gate_callee (f := 8) rfl ?_); refine goesL_ (some 12) rfl rfl Try.func8 (by kernel_rfl) rfl #[.agg #[.int .i64 2, .int .i64 30, .int .i64 0, .int .i64 0, .int .i64 0, .int .i32 0, .string (⟨#[]⟩ : ByteArray)]] rfl (by (try simp only [List.map_toArray, List.map_cons, List.map_nil]); rfl) ?_; (with_reducible refine (code_Encode.calls k 2 30 0 0 0 0 (⟨#[]⟩ : ByteArray) t133 t134 _ A2.out).mono ?_); rintro e w13 ⟨rfl, hb⟩; refine ⟨_, rfl, ?_⟩; have n0_ := Aside0.mk (below_step (by repeat ((with_reducible exact HB.out))) hb); clear HB; have HB := n0_; clear n0_; (try clear hb)))
  go_ret
  exact ⟨by rfl, by repeat ((with_reducible exact HB.out))⟩

end Go.Proofs.Ytpoofggcodiaiaa.X
