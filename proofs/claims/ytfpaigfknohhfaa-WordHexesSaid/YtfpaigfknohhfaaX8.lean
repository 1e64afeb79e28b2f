/- The walks: for each Go function a Lean function with the same answers, and the proof that the Go code comes to them; no condition beyond what each contract states. Written by this session's own program xprint.py (over the kit's print program); not one of print.sh's texts. -/
import Derived.Test.YtfpaigfknohhfaaX0
import Derived.Test.YtfpaigfknohhfaaX1
import Derived.Test.YtfpaigfknohhfaaX3
import Derived.Test.YtfpaigfknohhfaaX7
namespace Go.Proofs.Ytfpaigfknohhfaa.X
open Go.RowKit Go.Proofs.YtfpaigfknohhfaaW.PrintWords Go.Proofs.YtfpaigfknohhfaaW.PrintLast Go.Proofs.YtfpaigfknohhfaaW.PrintMore
attribute [local go_sem] max2_int min2_int max_two min_two max_three min_three max_four min_four   -- for this text's walks alone
set_option linter.unusedVariables false
set_option linter.unusedSimpArgs false

/-! ### brazierref01_Un: function 27 -/
def brazierref01_Un.f (a0 : Int) (a1 : Int) : Option (Int × Bool) := if a0 = 19 then ((brazierref01_Round.f (wrap64 (-(wrap64 (a1))))).bind fun t269 => (some (t269, true))) else (if a0 = 20 then ((brazierref01_truth.f (a1 == 0)).bind fun t270 => (some (t270, true))) else (if a0 = 21 then ((brazierref01_Round.f (wrap64 ((-1) - (wrap64 (a1))))).bind fun t271 => (some (t271, true))) else (some (0, false))))
set_option maxHeartbeats 8000000 in
set_option maxRecDepth 100000 in
theorem brazierref01_Un.calls (a0 : Int) (a1 : Int) (r1 : Int) (r2 : Bool) (w : World) (h : brazierref01_Un.f a0 a1 = some (r1, r2)) :
    Calls Try.prog 27 #[.int .i64 a0, .int .i32 a1] w fun e w' => e = .returned (.tuple #[.int .i32 r1, .bool r2]) ∧ Drawn0 w w' := by
  have H : (if a0 = 19 then ((brazierref01_Round.f (wrap64 (-(wrap64 (a1))))).bind fun t269 => (some (t269, true))) else (if a0 = 20 then ((brazierref01_truth.f (a1 == 0)).bind fun t270 => (some (t270, true))) else (if a0 = 21 then ((brazierref01_Round.f (wrap64 ((-1) - (wrap64 (a1))))).bind fun t271 => (some (t271, true))) else (some (0, false))))) = some (r1, r2) := h
  clear h
  by_cases c3 : a0 = 19
  · rw [if_pos c3] at H
    have c3b0 : (a0 == 19) = true := beq_iff_eq.mpr c3
    have c3b1 : (a0 != 19) = false := bne_eq_false_iff_eq.mpr c3
    clear c3
    replace H := Option.bind_eq_some_iff.mp H
    obtain ⟨t269, A40, H⟩ := H
    replace H : (some (t269, true)) = some (r1, r2) := H
    have A4 := Aside0.mk A40
    clear A40
    simp only [Option.some.injEq, Prod.mk.injEq] at H
    obtain ⟨rfl, rfl⟩ := H
    go_enter Try.func27, Try.ntmps27
    go_wp2_with (first | ((with_reducible refine gate_callee (f := 21) rfl ?_); refine goesL_ (some 12) rfl rfl Try.func21 (by kernel_rfl) rfl #[.int .i64 (wrap64 (-(wrap64 (a1))))] rfl (by (try simp only [List.map_toArray, List.map_cons, List.map_nil]); first | done | rfl | (simp only [List.length_drop, List.length_take]; rfl)) ?_; (with_reducible refine (brazierref01_Round.calls (wrap64 (-(wrap64 (a1)))) t269 _ A4.out).mono ?_); rintro e w' ⟨rfl, ⟨nd, rfl⟩⟩; refine ⟨_, rfl, ?_⟩))
    go_ret2
    exact ⟨by first | rfl | (simp; done) | (simp [*]; done), by repeat (first | exact Drawn0.refl _ | apply Drawn0.step)⟩
  · rw [if_neg c3] at H
    have c3b0 : (a0 == 19) = false := beq_eq_false_iff_ne.mpr c3
    have c3b1 : (a0 != 19) = true := bne_iff_ne.mpr c3
    by_cases c5 : a0 = 20
    · rw [if_pos c5] at H
      have c5b0 : (a0 == 20) = true := beq_iff_eq.mpr c5
      have c5b1 : (a0 != 20) = false := bne_eq_false_iff_eq.mpr c5
      clear c5
      replace H := Option.bind_eq_some_iff.mp H
      obtain ⟨t270, A60, H⟩ := H
      replace H : (some (t270, true)) = some (r1, r2) := H
      have A6 := Aside0.mk A60
      clear A60
      simp only [Option.some.injEq, Prod.mk.injEq] at H
      obtain ⟨rfl, rfl⟩ := H
      go_enter Try.func27, Try.ntmps27
      go_wp2_with (first | ((with_reducible refine gate_callee (f := 37) rfl ?_); refine goesL_ (some 17) rfl rfl Try.func37 (by kernel_rfl) rfl #[.bool (a1 == 0)] rfl (by (try simp only [List.map_toArray, List.map_cons, List.map_nil]); first | done | rfl | (simp only [List.length_drop, List.length_take]; rfl)) ?_; (with_reducible refine (brazierref01_truth.calls (a1 == 0) t270 _ A6.out).mono ?_); rintro e w' ⟨rfl, ⟨nd, rfl⟩⟩; refine ⟨_, rfl, ?_⟩))
      go_ret2
      exact ⟨by first | rfl | (simp; done) | (simp [*]; done), by repeat (first | exact Drawn0.refl _ | apply Drawn0.step)⟩
    · rw [if_neg c5] at H
      have c5b0 : (a0 == 20) = false := beq_eq_false_iff_ne.mpr c5
      have c5b1 : (a0 != 20) = true := bne_iff_ne.mpr c5
      by_cases c7 : a0 = 21
      · rw [if_pos c7] at H
        have c7b0 : (a0 == 21) = true := beq_iff_eq.mpr c7
        have c7b1 : (a0 != 21) = false := bne_eq_false_iff_eq.mpr c7
        clear c7
        replace H := Option.bind_eq_some_iff.mp H
        obtain ⟨t271, A80, H⟩ := H
        replace H : (some (t271, true)) = some (r1, r2) := H
        have A8 := Aside0.mk A80
        clear A80
        simp only [Option.some.injEq, Prod.mk.injEq] at H
        obtain ⟨rfl, rfl⟩ := H
        go_enter Try.func27, Try.ntmps27
        go_wp2_with (first | ((with_reducible refine gate_callee (f := 21) rfl ?_); refine goesL_ (some 23) rfl rfl Try.func21 (by kernel_rfl) rfl #[.int .i64 (wrap64 ((-1) - (wrap64 (a1))))] rfl (by (try simp only [List.map_toArray, List.map_cons, List.map_nil]); first | done | rfl | (simp only [List.length_drop, List.length_take]; rfl)) ?_; (with_reducible refine (brazierref01_Round.calls (wrap64 ((-1) - (wrap64 (a1)))) t271 _ A8.out).mono ?_); rintro e w' ⟨rfl, ⟨nd, rfl⟩⟩; refine ⟨_, rfl, ?_⟩))
        go_ret2
        exact ⟨by first | rfl | (simp; done) | (simp [*]; done), by repeat (first | exact Drawn0.refl _ | apply Drawn0.step)⟩
      · rw [if_neg c7] at H
        have c7b0 : (a0 == 21) = false := beq_eq_false_iff_ne.mpr c7
        have c7b1 : (a0 != 21) = true := bne_iff_ne.mpr c7
        simp only [Option.some.injEq, Prod.mk.injEq] at H
        obtain ⟨rfl, rfl⟩ := H
        go_enter Try.func27, Try.ntmps27
        go_wp2
        go_ret2
        exact ⟨by first | rfl | (simp; done) | (simp [*]; done), by repeat (first | exact Drawn0.refl _ | apply Drawn0.step)⟩

/-! ### word_Sign: function 28 -/
def word_Sign.f (a0 : Int) : Option (ByteArray) := (some (([(⟨#[43]⟩ : ByteArray), (⟨#[45]⟩ : ByteArray), (⟨#[42]⟩ : ByteArray), (⟨#[47]⟩ : ByteArray), (⟨#[37]⟩ : ByteArray), (⟨#[60, 60]⟩ : ByteArray), (⟨#[62, 62]⟩ : ByteArray), (⟨#[38]⟩ : ByteArray), (⟨#[124]⟩ : ByteArray), (⟨#[94]⟩ : ByteArray), (⟨#[60]⟩ : ByteArray), (⟨#[60, 61]⟩ : ByteArray), (⟨#[62]⟩ : ByteArray), (⟨#[62, 61]⟩ : ByteArray), (⟨#[61, 61]⟩ : ByteArray), (⟨#[33, 61]⟩ : ByteArray), (⟨#[38, 38]⟩ : ByteArray), (⟨#[124, 124]⟩ : ByteArray), (⟨#[45]⟩ : ByteArray), (⟨#[33]⟩ : ByteArray), (⟨#[126]⟩ : ByteArray)] : List ByteArray) : List ByteArray)).bind fun y272 => (if a0 < 1 then (some (⟨#[]⟩ : ByteArray)) else (if a0 > (y272.length : Int) then (some (⟨#[]⟩ : ByteArray)) else (if 0 ≤ (wrap64 (a0 - 1)) then (if (wrap64 (a0 - 1)) < (y272.length : Int) then (some (rdOf ByteArray.empty y272 (wrap64 (a0 - 1)))) else (none)) else (none))))
set_option maxHeartbeats 8000000 in
set_option maxRecDepth 100000 in
theorem word_Sign.calls (a0 : Int) (r : ByteArray) (w : World) (h : word_Sign.f a0 = some r) :
    Calls Try.prog 28 #[.int .i64 a0] w fun e w' => e = .returned (.string r) ∧ Below w.heap.size w w' := by
  have HB := Aside0.mk (Below.refl w.heap.size w)
  have H : ((some (([(⟨#[43]⟩ : ByteArray), (⟨#[45]⟩ : ByteArray), (⟨#[42]⟩ : ByteArray), (⟨#[47]⟩ : ByteArray), (⟨#[37]⟩ : ByteArray), (⟨#[60, 60]⟩ : ByteArray), (⟨#[62, 62]⟩ : ByteArray), (⟨#[38]⟩ : ByteArray), (⟨#[124]⟩ : ByteArray), (⟨#[94]⟩ : ByteArray), (⟨#[60]⟩ : ByteArray), (⟨#[60, 61]⟩ : ByteArray), (⟨#[62]⟩ : ByteArray), (⟨#[62, 61]⟩ : ByteArray), (⟨#[61, 61]⟩ : ByteArray), (⟨#[33, 61]⟩ : ByteArray), (⟨#[38, 38]⟩ : ByteArray), (⟨#[124, 124]⟩ : ByteArray), (⟨#[45]⟩ : ByteArray), (⟨#[33]⟩ : ByteArray), (⟨#[126]⟩ : ByteArray)] : List ByteArray) : List ByteArray)).bind fun y272 => (if a0 < 1 then (some (⟨#[]⟩ : ByteArray)) else (if a0 > (y272.length : Int) then (some (⟨#[]⟩ : ByteArray)) else (if 0 ≤ (wrap64 (a0 - 1)) then (if (wrap64 (a0 - 1)) < (y272.length : Int) then (some (rdOf ByteArray.empty y272 (wrap64 (a0 - 1)))) else (none)) else (none))))) = some r := h
  clear h
  obtain ⟨y272, hy272⟩ : ∃ y_ : List ByteArray, y_ = (([(⟨#[43]⟩ : ByteArray), (⟨#[45]⟩ : ByteArray), (⟨#[42]⟩ : ByteArray), (⟨#[47]⟩ : ByteArray), (⟨#[37]⟩ : ByteArray), (⟨#[60, 60]⟩ : ByteArray), (⟨#[62, 62]⟩ : ByteArray), (⟨#[38]⟩ : ByteArray), (⟨#[124]⟩ : ByteArray), (⟨#[94]⟩ : ByteArray), (⟨#[60]⟩ : ByteArray), (⟨#[60, 61]⟩ : ByteArray), (⟨#[62]⟩ : ByteArray), (⟨#[62, 61]⟩ : ByteArray), (⟨#[61, 61]⟩ : ByteArray), (⟨#[33, 61]⟩ : ByteArray), (⟨#[38, 38]⟩ : ByteArray), (⟨#[124, 124]⟩ : ByteArray), (⟨#[45]⟩ : ByteArray), (⟨#[33]⟩ : ByteArray), (⟨#[126]⟩ : ByteArray)] : List ByteArray)) := ⟨_, rfl⟩
  replace H : (if a0 < 1 then (some (⟨#[]⟩ : ByteArray)) else (if a0 > (y272.length : Int) then (some (⟨#[]⟩ : ByteArray)) else (if 0 ≤ (wrap64 (a0 - 1)) then (if (wrap64 (a0 - 1)) < (y272.length : Int) then (some (rdOf ByteArray.empty y272 (wrap64 (a0 - 1)))) else (none)) else (none)))) = some r := by first | (rw [hy272]; with_reducible exact H) | (have H2_ := (Option.bind_some _ _).symm.trans H; rw [hy272]; with_reducible exact H2_) | (have H2_ := (Option.bind_some _ _).symm.trans H; with_reducible exact H2_) | with_reducible exact H | (rw [hy272]; exact H) | exact H
  have Ny272 := Aside0.mk hy272
  clear hy272
  by_cases c2 : a0 < 1
  · rw [if_pos c2] at H
    have c2b0 : decide (a0 < 1) = true := decide_eq_true c2
    clear c2
    obtain rfl := Option.some.inj H
    go_enter Try.func28, Try.ntmps28
    go_wp2_with (first | ((with_reducible refine gate_dst (N := 4) rfl ?_); (try (refine gate_guard (by rfl) ?_; dsimp only)); refine Kd.R_lit Kd.string _ 9 ?hg (N := 4) ?hd (xs := ([(⟨#[43]⟩ : ByteArray), (⟨#[45]⟩ : ByteArray), (⟨#[42]⟩ : ByteArray), (⟨#[47]⟩ : ByteArray), (⟨#[37]⟩ : ByteArray), (⟨#[60, 60]⟩ : ByteArray), (⟨#[62, 62]⟩ : ByteArray), (⟨#[38]⟩ : ByteArray), (⟨#[124]⟩ : ByteArray), (⟨#[94]⟩ : ByteArray), (⟨#[60]⟩ : ByteArray), (⟨#[60, 61]⟩ : ByteArray), (⟨#[62]⟩ : ByteArray), (⟨#[62, 61]⟩ : ByteArray), (⟨#[61, 61]⟩ : ByteArray), (⟨#[33, 61]⟩ : ByteArray), (⟨#[38, 38]⟩ : ByteArray), (⟨#[124, 124]⟩ : ByteArray), (⟨#[45]⟩ : ByteArray), (⟨#[33]⟩ : ByteArray), (⟨#[126]⟩ : ByteArray)] : List ByteArray)) (inner := [.string (⟨#[43]⟩ : ByteArray), .string (⟨#[45]⟩ : ByteArray), .string (⟨#[42]⟩ : ByteArray), .string (⟨#[47]⟩ : ByteArray), .string (⟨#[37]⟩ : ByteArray), .string (⟨#[60, 60]⟩ : ByteArray), .string (⟨#[62, 62]⟩ : ByteArray), .string (⟨#[38]⟩ : ByteArray), .string (⟨#[124]⟩ : ByteArray), .string (⟨#[94]⟩ : ByteArray), .string (⟨#[60]⟩ : ByteArray), .string (⟨#[60, 61]⟩ : ByteArray), .string (⟨#[62]⟩ : ByteArray), .string (⟨#[62, 61]⟩ : ByteArray), .string (⟨#[61, 61]⟩ : ByteArray), .string (⟨#[33, 61]⟩ : ByteArray), .string (⟨#[38, 38]⟩ : ByteArray), .string (⟨#[124, 124]⟩ : ByteArray), .string (⟨#[45]⟩ : ByteArray), .string (⟨#[33]⟩ : ByteArray), .string (⟨#[126]⟩ : ByteArray)]) (ok := fun _ => True) (okp := fun _ => True) ?hr ?hp (fun _ hk => hk) trivial (Below.refl _ _) (Nat.le_refl _) (by simp) ?_; (case hd => rfl); (case hg => rfl); (case hr => first | (go_simp; done) | (go_simp; rfl)); (case hp => exact (Reps.one (show Kd.M Kd.string _ _ _ (⟨#[43]⟩ : ByteArray) [.string (⟨#[43]⟩ : ByteArray)] from rfl) (Reps.one (show Kd.M Kd.string _ _ _ (⟨#[45]⟩ : ByteArray) [.string (⟨#[45]⟩ : ByteArray)] from rfl) (Reps.one (show Kd.M Kd.string _ _ _ (⟨#[42]⟩ : ByteArray) [.string (⟨#[42]⟩ : ByteArray)] from rfl) (Reps.one (show Kd.M Kd.string _ _ _ (⟨#[47]⟩ : ByteArray) [.string (⟨#[47]⟩ : ByteArray)] from rfl) (Reps.one (show Kd.M Kd.string _ _ _ (⟨#[37]⟩ : ByteArray) [.string (⟨#[37]⟩ : ByteArray)] from rfl) (Reps.one (show Kd.M Kd.string _ _ _ (⟨#[60, 60]⟩ : ByteArray) [.string (⟨#[60, 60]⟩ : ByteArray)] from rfl) (Reps.one (show Kd.M Kd.string _ _ _ (⟨#[62, 62]⟩ : ByteArray) [.string (⟨#[62, 62]⟩ : ByteArray)] from rfl) (Reps.one (show Kd.M Kd.string _ _ _ (⟨#[38]⟩ : ByteArray) [.string (⟨#[38]⟩ : ByteArray)] from rfl) (Reps.one (show Kd.M Kd.string _ _ _ (⟨#[124]⟩ : ByteArray) [.string (⟨#[124]⟩ : ByteArray)] from rfl) (Reps.one (show Kd.M Kd.string _ _ _ (⟨#[94]⟩ : ByteArray) [.string (⟨#[94]⟩ : ByteArray)] from rfl) (Reps.one (show Kd.M Kd.string _ _ _ (⟨#[60]⟩ : ByteArray) [.string (⟨#[60]⟩ : ByteArray)] from rfl) (Reps.one (show Kd.M Kd.string _ _ _ (⟨#[60, 61]⟩ : ByteArray) [.string (⟨#[60, 61]⟩ : ByteArray)] from rfl) (Reps.one (show Kd.M Kd.string _ _ _ (⟨#[62]⟩ : ByteArray) [.string (⟨#[62]⟩ : ByteArray)] from rfl) (Reps.one (show Kd.M Kd.string _ _ _ (⟨#[62, 61]⟩ : ByteArray) [.string (⟨#[62, 61]⟩ : ByteArray)] from rfl) (Reps.one (show Kd.M Kd.string _ _ _ (⟨#[61, 61]⟩ : ByteArray) [.string (⟨#[61, 61]⟩ : ByteArray)] from rfl) (Reps.one (show Kd.M Kd.string _ _ _ (⟨#[33, 61]⟩ : ByteArray) [.string (⟨#[33, 61]⟩ : ByteArray)] from rfl) (Reps.one (show Kd.M Kd.string _ _ _ (⟨#[38, 38]⟩ : ByteArray) [.string (⟨#[38, 38]⟩ : ByteArray)] from rfl) (Reps.one (show Kd.M Kd.string _ _ _ (⟨#[124, 124]⟩ : ByteArray) [.string (⟨#[124, 124]⟩ : ByteArray)] from rfl) (Reps.one (show Kd.M Kd.string _ _ _ (⟨#[45]⟩ : ByteArray) [.string (⟨#[45]⟩ : ByteArray)] from rfl) (Reps.one (show Kd.M Kd.string _ _ _ (⟨#[33]⟩ : ByteArray) [.string (⟨#[33]⟩ : ByteArray)] from rfl) (Reps.one (show Kd.M Kd.string _ _ _ (⟨#[126]⟩ : ByteArray) [.string (⟨#[126]⟩ : ByteArray)] from rfl) (Reps.none _ _))))))))))))))))))))))); intro v273 w3 ho4 hb hg_ hnew_; clear hg_ hnew_; (first | rw [← Ny272.out] at ho4 | (simp only [Int.reduceToNat] at ho4; rw [← Ny272.out] at ho4)); have n0_ := Aside0.mk (Kd.R_lower ho4 (below_size (by repeat (first | (with_reducible first | exact HB.out | apply below_alloc | apply pw_below_drewN | apply below_drew1) | exact HB.out)))); have n1_ := Aside0.mk (below_step (by repeat (first | (with_reducible first | exact HB.out | apply below_alloc | apply pw_below_drewN | apply below_drew1) | exact HB.out)) hb); clear HB; have HO274 := n0_; have HB := n1_; clear n0_ n1_; clear hb ho4))
    go_ret
    exact ⟨by first | rfl | (simp [errW_none, errW_some] <;> rfl) | (simp [*, errW_none, errW_some] <;> rfl), by repeat (first | (with_reducible first | exact HB.out | apply below_alloc | apply pw_below_drewN | apply below_drew1) | exact HB.out)⟩
  · rw [if_neg c2] at H
    have c2b0 : decide (a0 < 1) = false := decide_eq_false c2
    clear c2
    by_cases c5 : a0 > (y272.length : Int)
    · rw [if_pos c5] at H
      have c5b0 : decide ((y272.length : Int) < a0) = true := decide_eq_true c5
      clear c5
      obtain rfl := Option.some.inj H
      go_enter Try.func28, Try.ntmps28
      go_wp2_with (first | ((with_reducible refine gate_dst (N := 4) rfl ?_); (try (refine gate_guard (by rfl) ?_; dsimp only)); refine Kd.R_lit Kd.string _ 9 ?hg (N := 4) ?hd (xs := ([(⟨#[43]⟩ : ByteArray), (⟨#[45]⟩ : ByteArray), (⟨#[42]⟩ : ByteArray), (⟨#[47]⟩ : ByteArray), (⟨#[37]⟩ : ByteArray), (⟨#[60, 60]⟩ : ByteArray), (⟨#[62, 62]⟩ : ByteArray), (⟨#[38]⟩ : ByteArray), (⟨#[124]⟩ : ByteArray), (⟨#[94]⟩ : ByteArray), (⟨#[60]⟩ : ByteArray), (⟨#[60, 61]⟩ : ByteArray), (⟨#[62]⟩ : ByteArray), (⟨#[62, 61]⟩ : ByteArray), (⟨#[61, 61]⟩ : ByteArray), (⟨#[33, 61]⟩ : ByteArray), (⟨#[38, 38]⟩ : ByteArray), (⟨#[124, 124]⟩ : ByteArray), (⟨#[45]⟩ : ByteArray), (⟨#[33]⟩ : ByteArray), (⟨#[126]⟩ : ByteArray)] : List ByteArray)) (inner := [.string (⟨#[43]⟩ : ByteArray), .string (⟨#[45]⟩ : ByteArray), .string (⟨#[42]⟩ : ByteArray), .string (⟨#[47]⟩ : ByteArray), .string (⟨#[37]⟩ : ByteArray), .string (⟨#[60, 60]⟩ : ByteArray), .string (⟨#[62, 62]⟩ : ByteArray), .string (⟨#[38]⟩ : ByteArray), .string (⟨#[124]⟩ : ByteArray), .string (⟨#[94]⟩ : ByteArray), .string (⟨#[60]⟩ : ByteArray), .string (⟨#[60, 61]⟩ : ByteArray), .string (⟨#[62]⟩ : ByteArray), .string (⟨#[62, 61]⟩ : ByteArray), .string (⟨#[61, 61]⟩ : ByteArray), .string (⟨#[33, 61]⟩ : ByteArray), .string (⟨#[38, 38]⟩ : ByteArray), .string (⟨#[124, 124]⟩ : ByteArray), .string (⟨#[45]⟩ : ByteArray), .string (⟨#[33]⟩ : ByteArray), .string (⟨#[126]⟩ : ByteArray)]) (ok := fun _ => True) (okp := fun _ => True) ?hr ?hp (fun _ hk => hk) trivial (Below.refl _ _) (Nat.le_refl _) (by simp) ?_; (case hd => rfl); (case hg => rfl); (case hr => first | (go_simp; done) | (go_simp; rfl)); (case hp => exact (Reps.one (show Kd.M Kd.string _ _ _ (⟨#[43]⟩ : ByteArray) [.string (⟨#[43]⟩ : ByteArray)] from rfl) (Reps.one (show Kd.M Kd.string _ _ _ (⟨#[45]⟩ : ByteArray) [.string (⟨#[45]⟩ : ByteArray)] from rfl) (Reps.one (show Kd.M Kd.string _ _ _ (⟨#[42]⟩ : ByteArray) [.string (⟨#[42]⟩ : ByteArray)] from rfl) (Reps.one (show Kd.M Kd.string _ _ _ (⟨#[47]⟩ : ByteArray) [.string (⟨#[47]⟩ : ByteArray)] from rfl) (Reps.one (show Kd.M Kd.string _ _ _ (⟨#[37]⟩ : ByteArray) [.string (⟨#[37]⟩ : ByteArray)] from rfl) (Reps.one (show Kd.M Kd.string _ _ _ (⟨#[60, 60]⟩ : ByteArray) [.string (⟨#[60, 60]⟩ : ByteArray)] from rfl) (Reps.one (show Kd.M Kd.string _ _ _ (⟨#[62, 62]⟩ : ByteArray) [.string (⟨#[62, 62]⟩ : ByteArray)] from rfl) (Reps.one (show Kd.M Kd.string _ _ _ (⟨#[38]⟩ : ByteArray) [.string (⟨#[38]⟩ : ByteArray)] from rfl) (Reps.one (show Kd.M Kd.string _ _ _ (⟨#[124]⟩ : ByteArray) [.string (⟨#[124]⟩ : ByteArray)] from rfl) (Reps.one (show Kd.M Kd.string _ _ _ (⟨#[94]⟩ : ByteArray) [.string (⟨#[94]⟩ : ByteArray)] from rfl) (Reps.one (show Kd.M Kd.string _ _ _ (⟨#[60]⟩ : ByteArray) [.string (⟨#[60]⟩ : ByteArray)] from rfl) (Reps.one (show Kd.M Kd.string _ _ _ (⟨#[60, 61]⟩ : ByteArray) [.string (⟨#[60, 61]⟩ : ByteArray)] from rfl) (Reps.one (show Kd.M Kd.string _ _ _ (⟨#[62]⟩ : ByteArray) [.string (⟨#[62]⟩ : ByteArray)] from rfl) (Reps.one (show Kd.M Kd.string _ _ _ (⟨#[62, 61]⟩ : ByteArray) [.string (⟨#[62, 61]⟩ : ByteArray)] from rfl) (Reps.one (show Kd.M Kd.string _ _ _ (⟨#[61, 61]⟩ : ByteArray) [.string (⟨#[61, 61]⟩ : ByteArray)] from rfl) (Reps.one (show Kd.M Kd.string _ _ _ (⟨#[33, 61]⟩ : ByteArray) [.string (⟨#[33, 61]⟩ : ByteArray)] from rfl) (Reps.one (show Kd.M Kd.string _ _ _ (⟨#[38, 38]⟩ : ByteArray) [.string (⟨#[38, 38]⟩ : ByteArray)] from rfl) (Reps.one (show Kd.M Kd.string _ _ _ (⟨#[124, 124]⟩ : ByteArray) [.string (⟨#[124, 124]⟩ : ByteArray)] from rfl) (Reps.one (show Kd.M Kd.string _ _ _ (⟨#[45]⟩ : ByteArray) [.string (⟨#[45]⟩ : ByteArray)] from rfl) (Reps.one (show Kd.M Kd.string _ _ _ (⟨#[33]⟩ : ByteArray) [.string (⟨#[33]⟩ : ByteArray)] from rfl) (Reps.one (show Kd.M Kd.string _ _ _ (⟨#[126]⟩ : ByteArray) [.string (⟨#[126]⟩ : ByteArray)] from rfl) (Reps.none _ _))))))))))))))))))))))); intro v273 w6 ho7 hb hg_ hnew_; clear hg_ hnew_; (first | rw [← Ny272.out] at ho7 | (simp only [Int.reduceToNat] at ho7; rw [← Ny272.out] at ho7)); have n0_ := Aside0.mk (Kd.R_lower ho7 (below_size (by repeat (first | (with_reducible first | exact HB.out | apply below_alloc | apply pw_below_drewN | apply below_drew1) | exact HB.out)))); have n1_ := Aside0.mk (below_step (by repeat (first | (with_reducible first | exact HB.out | apply below_alloc | apply pw_below_drewN | apply below_drew1) | exact HB.out)) hb); clear HB; have HO274 := n0_; have HB := n1_; clear n0_ n1_; clear hb ho7; obtain ⟨Ao8, co8, eo8⟩ := Kd.R_slice HO274.out; subst eo8))
      go_ret
      exact ⟨by first | rfl | (simp [errW_none, errW_some] <;> rfl) | (simp [*, errW_none, errW_some] <;> rfl), by repeat (first | (with_reducible first | exact HB.out | apply below_alloc | apply pw_below_drewN | apply below_drew1) | exact HB.out)⟩
    · rw [if_neg c5] at H
      have c5b0 : decide ((y272.length : Int) < a0) = false := decide_eq_false c5
      clear c5
      obtain ⟨ji9, hji9⟩ : ∃ j_ : Int, (wrap64 (a0 - 1)) = j_ := ⟨_, rfl⟩
      replace H : (if 0 ≤ (ji9) then (if (ji9) < (y272.length : Int) then (some (rdOf ByteArray.empty y272 (ji9))) else (none)) else (none)) = some r := by first | (rw [hji9] at H; exact H) | (simp only [hji9] at H ⊢; exact H)
      have hji9w : (IntKind.i64.wrap (a0 - 1)) = ji9 := (i64_w _).trans hji9
      by_cases c10 : 0 ≤ (ji9)
      · rw [if_pos c10] at H
        have c10b0 : decide (0 ≤ (ji9)) = true := decide_eq_true c10
        clear c10
        by_cases c11 : (ji9) < (y272.length : Int)
        · rw [if_pos c11] at H
          have c11b0 : decide ((ji9) < (y272.length : Int)) = true := decide_eq_true c11
          clear c11
          obtain rfl := Option.some.inj H
          go_enter Try.func28, Try.ntmps28
          go_wp2_with (first | ((with_reducible refine gate_dst (N := 4) rfl ?_); (try (refine gate_guard (by rfl) ?_; dsimp only)); refine Kd.R_lit Kd.string _ 9 ?hg (N := 4) ?hd (xs := ([(⟨#[43]⟩ : ByteArray), (⟨#[45]⟩ : ByteArray), (⟨#[42]⟩ : ByteArray), (⟨#[47]⟩ : ByteArray), (⟨#[37]⟩ : ByteArray), (⟨#[60, 60]⟩ : ByteArray), (⟨#[62, 62]⟩ : ByteArray), (⟨#[38]⟩ : ByteArray), (⟨#[124]⟩ : ByteArray), (⟨#[94]⟩ : ByteArray), (⟨#[60]⟩ : ByteArray), (⟨#[60, 61]⟩ : ByteArray), (⟨#[62]⟩ : ByteArray), (⟨#[62, 61]⟩ : ByteArray), (⟨#[61, 61]⟩ : ByteArray), (⟨#[33, 61]⟩ : ByteArray), (⟨#[38, 38]⟩ : ByteArray), (⟨#[124, 124]⟩ : ByteArray), (⟨#[45]⟩ : ByteArray), (⟨#[33]⟩ : ByteArray), (⟨#[126]⟩ : ByteArray)] : List ByteArray)) (inner := [.string (⟨#[43]⟩ : ByteArray), .string (⟨#[45]⟩ : ByteArray), .string (⟨#[42]⟩ : ByteArray), .string (⟨#[47]⟩ : ByteArray), .string (⟨#[37]⟩ : ByteArray), .string (⟨#[60, 60]⟩ : ByteArray), .string (⟨#[62, 62]⟩ : ByteArray), .string (⟨#[38]⟩ : ByteArray), .string (⟨#[124]⟩ : ByteArray), .string (⟨#[94]⟩ : ByteArray), .string (⟨#[60]⟩ : ByteArray), .string (⟨#[60, 61]⟩ : ByteArray), .string (⟨#[62]⟩ : ByteArray), .string (⟨#[62, 61]⟩ : ByteArray), .string (⟨#[61, 61]⟩ : ByteArray), .string (⟨#[33, 61]⟩ : ByteArray), .string (⟨#[38, 38]⟩ : ByteArray), .string (⟨#[124, 124]⟩ : ByteArray), .string (⟨#[45]⟩ : ByteArray), .string (⟨#[33]⟩ : ByteArray), .string (⟨#[126]⟩ : ByteArray)]) (ok := fun _ => True) (okp := fun _ => True) ?hr ?hp (fun _ hk => hk) trivial (Below.refl _ _) (Nat.le_refl _) (by simp) ?_; (case hd => rfl); (case hg => rfl); (case hr => first | (go_simp; done) | (go_simp; rfl)); (case hp => exact (Reps.one (show Kd.M Kd.string _ _ _ (⟨#[43]⟩ : ByteArray) [.string (⟨#[43]⟩ : ByteArray)] from rfl) (Reps.one (show Kd.M Kd.string _ _ _ (⟨#[45]⟩ : ByteArray) [.string (⟨#[45]⟩ : ByteArray)] from rfl) (Reps.one (show Kd.M Kd.string _ _ _ (⟨#[42]⟩ : ByteArray) [.string (⟨#[42]⟩ : ByteArray)] from rfl) (Reps.one (show Kd.M Kd.string _ _ _ (⟨#[47]⟩ : ByteArray) [.string (⟨#[47]⟩ : ByteArray)] from rfl) (Reps.one (show Kd.M Kd.string _ _ _ (⟨#[37]⟩ : ByteArray) [.string (⟨#[37]⟩ : ByteArray)] from rfl) (Reps.one (show Kd.M Kd.string _ _ _ (⟨#[60, 60]⟩ : ByteArray) [.string (⟨#[60, 60]⟩ : ByteArray)] from rfl) (Reps.one (show Kd.M Kd.string _ _ _ (⟨#[62, 62]⟩ : ByteArray) [.string (⟨#[62, 62]⟩ : ByteArray)] from rfl) (Reps.one (show Kd.M Kd.string _ _ _ (⟨#[38]⟩ : ByteArray) [.string (⟨#[38]⟩ : ByteArray)] from rfl) (Reps.one (show Kd.M Kd.string _ _ _ (⟨#[124]⟩ : ByteArray) [.string (⟨#[124]⟩ : ByteArray)] from rfl) (Reps.one (show Kd.M Kd.string _ _ _ (⟨#[94]⟩ : ByteArray) [.string (⟨#[94]⟩ : ByteArray)] from rfl) (Reps.one (show Kd.M Kd.string _ _ _ (⟨#[60]⟩ : ByteArray) [.string (⟨#[60]⟩ : ByteArray)] from rfl) (Reps.one (show Kd.M Kd.string _ _ _ (⟨#[60, 61]⟩ : ByteArray) [.string (⟨#[60, 61]⟩ : ByteArray)] from rfl) (Reps.one (show Kd.M Kd.string _ _ _ (⟨#[62]⟩ : ByteArray) [.string (⟨#[62]⟩ : ByteArray)] from rfl) (Reps.one (show Kd.M Kd.string _ _ _ (⟨#[62, 61]⟩ : ByteArray) [.string (⟨#[62, 61]⟩ : ByteArray)] from rfl) (Reps.one (show Kd.M Kd.string _ _ _ (⟨#[61, 61]⟩ : ByteArray) [.string (⟨#[61, 61]⟩ : ByteArray)] from rfl) (Reps.one (show Kd.M Kd.string _ _ _ (⟨#[33, 61]⟩ : ByteArray) [.string (⟨#[33, 61]⟩ : ByteArray)] from rfl) (Reps.one (show Kd.M Kd.string _ _ _ (⟨#[38, 38]⟩ : ByteArray) [.string (⟨#[38, 38]⟩ : ByteArray)] from rfl) (Reps.one (show Kd.M Kd.string _ _ _ (⟨#[124, 124]⟩ : ByteArray) [.string (⟨#[124, 124]⟩ : ByteArray)] from rfl) (Reps.one (show Kd.M Kd.string _ _ _ (⟨#[45]⟩ : ByteArray) [.string (⟨#[45]⟩ : ByteArray)] from rfl) (Reps.one (show Kd.M Kd.string _ _ _ (⟨#[33]⟩ : ByteArray) [.string (⟨#[33]⟩ : ByteArray)] from rfl) (Reps.one (show Kd.M Kd.string _ _ _ (⟨#[126]⟩ : ByteArray) [.string (⟨#[126]⟩ : ByteArray)] from rfl) (Reps.none _ _))))))))))))))))))))))); intro v273 w12 ho13 hb hg_ hnew_; clear hg_ hnew_; (first | rw [← Ny272.out] at ho13 | (simp only [Int.reduceToNat] at ho13; rw [← Ny272.out] at ho13)); have n0_ := Aside0.mk (Kd.R_lower ho13 (below_size (by repeat (first | (with_reducible first | exact HB.out | apply below_alloc | apply pw_below_drewN | apply below_drew1) | exact HB.out)))); have n1_ := Aside0.mk (below_step (by repeat (first | (with_reducible first | exact HB.out | apply below_alloc | apply pw_below_drewN | apply below_drew1) | exact HB.out)) hb); clear HB; have HO274 := n0_; have HB := n1_; clear n0_ n1_; clear hb ho13; obtain ⟨Ao14, co14, eo14⟩ := Kd.R_slice HO274.out; subst eo14; have p275 : 0 ≤ ((ji9) : Int) := of_decide_eq_true (by first | (with_reducible assumption) | assumption); have q275 : (ji9) < (y272.length : Int) := of_decide_eq_true (by first | (with_reducible assumption) | assumption); obtain ⟨ad275, e275, hx275_0⟩ := Kd.at_string (Kd.R_reads' HO274.out).2.2 (ji9) p275 q275; cases e275; replace p275 := eq_true p275; replace q275 := eq_true q275))
          go_ret
          exact ⟨by first | rfl | (simp [errW_none, errW_some] <;> rfl) | (simp only [← hji9]; first | rfl | (simp [errW_none, errW_some] <;> rfl)) | (simp [*, errW_none, errW_some] <;> rfl), by repeat (first | (with_reducible first | exact HB.out | apply below_alloc | apply pw_below_drewN | apply below_drew1) | exact HB.out)⟩
        · rw [if_neg c11] at H
          exact absurd H (by simp)
      · rw [if_neg c10] at H
        exact absurd H (by simp)

/-! ### brazierref01_Sign: function 29 -/
set_option maxHeartbeats 8000000 in
set_option maxRecDepth 100000 in
theorem brazierref01_Sign.s1 (w : World) :
    Calls Try.prog 29 #[.int .i64 1] w fun e w' => e = .returned (.string (⟨#[43]⟩ : ByteArray)) ∧ Drawn0 w w' := by
  have e0 : (⟨#[43, 32, 32, 45, 32, 32, 42, 32, 32, 47, 32, 32, 37, 32, 32, 60, 60, 32, 62, 62, 32, 38, 32, 32, 124, 32, 32, 94, 32, 32, 60, 32, 32, 60, 61, 32, 62, 32, 32, 62, 61, 32, 61, 61, 32, 33, 61, 32, 38, 38, 32, 124, 124, 32, 45, 32, 32, 33, 32, 32, 126, 32, 32]⟩ : ByteArray).extract 0 3 = (⟨#[43, 32, 32]⟩ : ByteArray) := by decide +kernel
  have e1 : (⟨#[43, 32, 32]⟩ : ByteArray).extract 0 2 = (⟨#[43, 32]⟩ : ByteArray) := by decide +kernel
  have f1 : (((((⟨#[43, 32, 32]⟩ : ByteArray))[2]'(by decide)).toNat : Int) == 32) = true := by decide +kernel
  have e2 : (⟨#[43, 32]⟩ : ByteArray).extract 0 1 = (⟨#[43]⟩ : ByteArray) := by decide +kernel
  have f2 : (((((⟨#[43, 32]⟩ : ByteArray))[1]'(by decide)).toNat : Int) == 32) = true := by decide +kernel
  have f3 : (((((⟨#[43]⟩ : ByteArray))[0]'(by decide)).toNat : Int) == 32) = false := by decide +kernel
  go_enter Try.func29, Try.ntmps29
  go_wp2
  refine wp_loop_rounds 3 ?_; rw [rounds_succ]
  go_wp2
  rw [rounds_succ]
  go_wp2
  rw [rounds_succ]
  go_wp2
  go_ret
  exact ⟨rfl, Drawn0.refl _⟩
set_option maxHeartbeats 8000000 in
set_option maxRecDepth 100000 in
theorem brazierref01_Sign.s2 (w : World) :
    Calls Try.prog 29 #[.int .i64 2] w fun e w' => e = .returned (.string (⟨#[45]⟩ : ByteArray)) ∧ Drawn0 w w' := by
  have e0 : (⟨#[43, 32, 32, 45, 32, 32, 42, 32, 32, 47, 32, 32, 37, 32, 32, 60, 60, 32, 62, 62, 32, 38, 32, 32, 124, 32, 32, 94, 32, 32, 60, 32, 32, 60, 61, 32, 62, 32, 32, 62, 61, 32, 61, 61, 32, 33, 61, 32, 38, 38, 32, 124, 124, 32, 45, 32, 32, 33, 32, 32, 126, 32, 32]⟩ : ByteArray).extract 3 6 = (⟨#[45, 32, 32]⟩ : ByteArray) := by decide +kernel
  have e1 : (⟨#[45, 32, 32]⟩ : ByteArray).extract 0 2 = (⟨#[45, 32]⟩ : ByteArray) := by decide +kernel
  have f1 : (((((⟨#[45, 32, 32]⟩ : ByteArray))[2]'(by decide)).toNat : Int) == 32) = true := by decide +kernel
  have e2 : (⟨#[45, 32]⟩ : ByteArray).extract 0 1 = (⟨#[45]⟩ : ByteArray) := by decide +kernel
  have f2 : (((((⟨#[45, 32]⟩ : ByteArray))[1]'(by decide)).toNat : Int) == 32) = true := by decide +kernel
  have f3 : (((((⟨#[45]⟩ : ByteArray))[0]'(by decide)).toNat : Int) == 32) = false := by decide +kernel
  go_enter Try.func29, Try.ntmps29
  go_wp2
  refine wp_loop_rounds 3 ?_; rw [rounds_succ]
  go_wp2
  rw [rounds_succ]
  go_wp2
  rw [rounds_succ]
  go_wp2
  go_ret
  exact ⟨rfl, Drawn0.refl _⟩
set_option maxHeartbeats 8000000 in
set_option maxRecDepth 100000 in
theorem brazierref01_Sign.s3 (w : World) :
    Calls Try.prog 29 #[.int .i64 3] w fun e w' => e = .returned (.string (⟨#[42]⟩ : ByteArray)) ∧ Drawn0 w w' := by
  have e0 : (⟨#[43, 32, 32, 45, 32, 32, 42, 32, 32, 47, 32, 32, 37, 32, 32, 60, 60, 32, 62, 62, 32, 38, 32, 32, 124, 32, 32, 94, 32, 32, 60, 32, 32, 60, 61, 32, 62, 32, 32, 62, 61, 32, 61, 61, 32, 33, 61, 32, 38, 38, 32, 124, 124, 32, 45, 32, 32, 33, 32, 32, 126, 32, 32]⟩ : ByteArray).extract 6 9 = (⟨#[42, 32, 32]⟩ : ByteArray) := by decide +kernel
  have e1 : (⟨#[42, 32, 32]⟩ : ByteArray).extract 0 2 = (⟨#[42, 32]⟩ : ByteArray) := by decide +kernel
  have f1 : (((((⟨#[42, 32, 32]⟩ : ByteArray))[2]'(by decide)).toNat : Int) == 32) = true := by decide +kernel
  have e2 : (⟨#[42, 32]⟩ : ByteArray).extract 0 1 = (⟨#[42]⟩ : ByteArray) := by decide +kernel
  have f2 : (((((⟨#[42, 32]⟩ : ByteArray))[1]'(by decide)).toNat : Int) == 32) = true := by decide +kernel
  have f3 : (((((⟨#[42]⟩ : ByteArray))[0]'(by decide)).toNat : Int) == 32) = false := by decide +kernel
  go_enter Try.func29, Try.ntmps29
  go_wp2
  refine wp_loop_rounds 3 ?_; rw [rounds_succ]
  go_wp2
  rw [rounds_succ]
  go_wp2
  rw [rounds_succ]
  go_wp2
  go_ret
  exact ⟨rfl, Drawn0.refl _⟩
set_option maxHeartbeats 8000000 in
set_option maxRecDepth 100000 in
theorem brazierref01_Sign.s4 (w : World) :
    Calls Try.prog 29 #[.int .i64 4] w fun e w' => e = .returned (.string (⟨#[47]⟩ : ByteArray)) ∧ Drawn0 w w' := by
  have e0 : (⟨#[43, 32, 32, 45, 32, 32, 42, 32, 32, 47, 32, 32, 37, 32, 32, 60, 60, 32, 62, 62, 32, 38, 32, 32, 124, 32, 32, 94, 32, 32, 60, 32, 32, 60, 61, 32, 62, 32, 32, 62, 61, 32, 61, 61, 32, 33, 61, 32, 38, 38, 32, 124, 124, 32, 45, 32, 32, 33, 32, 32, 126, 32, 32]⟩ : ByteArray).extract 9 12 = (⟨#[47, 32, 32]⟩ : ByteArray) := by decide +kernel
  have e1 : (⟨#[47, 32, 32]⟩ : ByteArray).extract 0 2 = (⟨#[47, 32]⟩ : ByteArray) := by decide +kernel
  have f1 : (((((⟨#[47, 32, 32]⟩ : ByteArray))[2]'(by decide)).toNat : Int) == 32) = true := by decide +kernel
  have e2 : (⟨#[47, 32]⟩ : ByteArray).extract 0 1 = (⟨#[47]⟩ : ByteArray) := by decide +kernel
  have f2 : (((((⟨#[47, 32]⟩ : ByteArray))[1]'(by decide)).toNat : Int) == 32) = true := by decide +kernel
  have f3 : (((((⟨#[47]⟩ : ByteArray))[0]'(by decide)).toNat : Int) == 32) = false := by decide +kernel
  go_enter Try.func29, Try.ntmps29
  go_wp2
  refine wp_loop_rounds 3 ?_; rw [rounds_succ]
  go_wp2
  rw [rounds_succ]
  go_wp2
  rw [rounds_succ]
  go_wp2
  go_ret
  exact ⟨rfl, Drawn0.refl _⟩
set_option maxHeartbeats 8000000 in
set_option maxRecDepth 100000 in
theorem brazierref01_Sign.s5 (w : World) :
    Calls Try.prog 29 #[.int .i64 5] w fun e w' => e = .returned (.string (⟨#[37]⟩ : ByteArray)) ∧ Drawn0 w w' := by
  have e0 : (⟨#[43, 32, 32, 45, 32, 32, 42, 32, 32, 47, 32, 32, 37, 32, 32, 60, 60, 32, 62, 62, 32, 38, 32, 32, 124, 32, 32, 94, 32, 32, 60, 32, 32, 60, 61, 32, 62, 32, 32, 62, 61, 32, 61, 61, 32, 33, 61, 32, 38, 38, 32, 124, 124, 32, 45, 32, 32, 33, 32, 32, 126, 32, 32]⟩ : ByteArray).extract 12 15 = (⟨#[37, 32, 32]⟩ : ByteArray) := by decide +kernel
  have e1 : (⟨#[37, 32, 32]⟩ : ByteArray).extract 0 2 = (⟨#[37, 32]⟩ : ByteArray) := by decide +kernel
  have f1 : (((((⟨#[37, 32, 32]⟩ : ByteArray))[2]'(by decide)).toNat : Int) == 32) = true := by decide +kernel
  have e2 : (⟨#[37, 32]⟩ : ByteArray).extract 0 1 = (⟨#[37]⟩ : ByteArray) := by decide +kernel
  have f2 : (((((⟨#[37, 32]⟩ : ByteArray))[1]'(by decide)).toNat : Int) == 32) = true := by decide +kernel
  have f3 : (((((⟨#[37]⟩ : ByteArray))[0]'(by decide)).toNat : Int) == 32) = false := by decide +kernel
  go_enter Try.func29, Try.ntmps29
  go_wp2
  refine wp_loop_rounds 3 ?_; rw [rounds_succ]
  go_wp2
  rw [rounds_succ]
  go_wp2
  rw [rounds_succ]
  go_wp2
  go_ret
  exact ⟨rfl, Drawn0.refl _⟩
set_option maxHeartbeats 8000000 in
set_option maxRecDepth 100000 in
theorem brazierref01_Sign.s6 (w : World) :
    Calls Try.prog 29 #[.int .i64 6] w fun e w' => e = .returned (.string (⟨#[60, 60]⟩ : ByteArray)) ∧ Drawn0 w w' := by
  have e0 : (⟨#[43, 32, 32, 45, 32, 32, 42, 32, 32, 47, 32, 32, 37, 32, 32, 60, 60, 32, 62, 62, 32, 38, 32, 32, 124, 32, 32, 94, 32, 32, 60, 32, 32, 60, 61, 32, 62, 32, 32, 62, 61, 32, 61, 61, 32, 33, 61, 32, 38, 38, 32, 124, 124, 32, 45, 32, 32, 33, 32, 32, 126, 32, 32]⟩ : ByteArray).extract 15 18 = (⟨#[60, 60, 32]⟩ : ByteArray) := by decide +kernel
  have e1 : (⟨#[60, 60, 32]⟩ : ByteArray).extract 0 2 = (⟨#[60, 60]⟩ : ByteArray) := by decide +kernel
  have f1 : (((((⟨#[60, 60, 32]⟩ : ByteArray))[2]'(by decide)).toNat : Int) == 32) = true := by decide +kernel
  have f2 : (((((⟨#[60, 60]⟩ : ByteArray))[1]'(by decide)).toNat : Int) == 32) = false := by decide +kernel
  go_enter Try.func29, Try.ntmps29
  go_wp2
  refine wp_loop_rounds 2 ?_; rw [rounds_succ]
  go_wp2
  rw [rounds_succ]
  go_wp2
  go_ret
  exact ⟨rfl, Drawn0.refl _⟩
set_option maxHeartbeats 8000000 in
set_option maxRecDepth 100000 in
theorem brazierref01_Sign.s7 (w : World) :
    Calls Try.prog 29 #[.int .i64 7] w fun e w' => e = .returned (.string (⟨#[62, 62]⟩ : ByteArray)) ∧ Drawn0 w w' := by
  have e0 : (⟨#[43, 32, 32, 45, 32, 32, 42, 32, 32, 47, 32, 32, 37, 32, 32, 60, 60, 32, 62, 62, 32, 38, 32, 32, 124, 32, 32, 94, 32, 32, 60, 32, 32, 60, 61, 32, 62, 32, 32, 62, 61, 32, 61, 61, 32, 33, 61, 32, 38, 38, 32, 124, 124, 32, 45, 32, 32, 33, 32, 32, 126, 32, 32]⟩ : ByteArray).extract 18 21 = (⟨#[62, 62, 32]⟩ : ByteArray) := by decide +kernel
  have e1 : (⟨#[62, 62, 32]⟩ : ByteArray).extract 0 2 = (⟨#[62, 62]⟩ : ByteArray) := by decide +kernel
  have f1 : (((((⟨#[62, 62, 32]⟩ : ByteArray))[2]'(by decide)).toNat : Int) == 32) = true := by decide +kernel
  have f2 : (((((⟨#[62, 62]⟩ : ByteArray))[1]'(by decide)).toNat : Int) == 32) = false := by decide +kernel
  go_enter Try.func29, Try.ntmps29
  go_wp2
  refine wp_loop_rounds 2 ?_; rw [rounds_succ]
  go_wp2
  rw [rounds_succ]
  go_wp2
  go_ret
  exact ⟨rfl, Drawn0.refl _⟩
set_option maxHeartbeats 8000000 in
set_option maxRecDepth 100000 in
theorem brazierref01_Sign.s8 (w : World) :
    Calls Try.prog 29 #[.int .i64 8] w fun e w' => e = .returned (.string (⟨#[38]⟩ : ByteArray)) ∧ Drawn0 w w' := by
  have e0 : (⟨#[43, 32, 32, 45, 32, 32, 42, 32, 32, 47, 32, 32, 37, 32, 32, 60, 60, 32, 62, 62, 32, 38, 32, 32, 124, 32, 32, 94, 32, 32, 60, 32, 32, 60, 61, 32, 62, 32, 32, 62, 61, 32, 61, 61, 32, 33, 61, 32, 38, 38, 32, 124, 124, 32, 45, 32, 32, 33, 32, 32, 126, 32, 32]⟩ : ByteArray).extract 21 24 = (⟨#[38, 32, 32]⟩ : ByteArray) := by decide +kernel
  have e1 : (⟨#[38, 32, 32]⟩ : ByteArray).extract 0 2 = (⟨#[38, 32]⟩ : ByteArray) := by decide +kernel
  have f1 : (((((⟨#[38, 32, 32]⟩ : ByteArray))[2]'(by decide)).toNat : Int) == 32) = true := by decide +kernel
  have e2 : (⟨#[38, 32]⟩ : ByteArray).extract 0 1 = (⟨#[38]⟩ : ByteArray) := by decide +kernel
  have f2 : (((((⟨#[38, 32]⟩ : ByteArray))[1]'(by decide)).toNat : Int) == 32) = true := by decide +kernel
  have f3 : (((((⟨#[38]⟩ : ByteArray))[0]'(by decide)).toNat : Int) == 32) = false := by decide +kernel
  go_enter Try.func29, Try.ntmps29
  go_wp2
  refine wp_loop_rounds 3 ?_; rw [rounds_succ]
  go_wp2
  rw [rounds_succ]
  go_wp2
  rw [rounds_succ]
  go_wp2
  go_ret
  exact ⟨rfl, Drawn0.refl _⟩
set_option maxHeartbeats 8000000 in
set_option maxRecDepth 100000 in
theorem brazierref01_Sign.s9 (w : World) :
    Calls Try.prog 29 #[.int .i64 9] w fun e w' => e = .returned (.string (⟨#[124]⟩ : ByteArray)) ∧ Drawn0 w w' := by
  have e0 : (⟨#[43, 32, 32, 45, 32, 32, 42, 32, 32, 47, 32, 32, 37, 32, 32, 60, 60, 32, 62, 62, 32, 38, 32, 32, 124, 32, 32, 94, 32, 32, 60, 32, 32, 60, 61, 32, 62, 32, 32, 62, 61, 32, 61, 61, 32, 33, 61, 32, 38, 38, 32, 124, 124, 32, 45, 32, 32, 33, 32, 32, 126, 32, 32]⟩ : ByteArray).extract 24 27 = (⟨#[124, 32, 32]⟩ : ByteArray) := by decide +kernel
  have e1 : (⟨#[124, 32, 32]⟩ : ByteArray).extract 0 2 = (⟨#[124, 32]⟩ : ByteArray) := by decide +kernel
  have f1 : (((((⟨#[124, 32, 32]⟩ : ByteArray))[2]'(by decide)).toNat : Int) == 32) = true := by decide +kernel
  have e2 : (⟨#[124, 32]⟩ : ByteArray).extract 0 1 = (⟨#[124]⟩ : ByteArray) := by decide +kernel
  have f2 : (((((⟨#[124, 32]⟩ : ByteArray))[1]'(by decide)).toNat : Int) == 32) = true := by decide +kernel
  have f3 : (((((⟨#[124]⟩ : ByteArray))[0]'(by decide)).toNat : Int) == 32) = false := by decide +kernel
  go_enter Try.func29, Try.ntmps29
  go_wp2
  refine wp_loop_rounds 3 ?_; rw [rounds_succ]
  go_wp2
  rw [rounds_succ]
  go_wp2
  rw [rounds_succ]
  go_wp2
  go_ret
  exact ⟨rfl, Drawn0.refl _⟩
set_option maxHeartbeats 8000000 in
set_option maxRecDepth 100000 in
theorem brazierref01_Sign.s10 (w : World) :
    Calls Try.prog 29 #[.int .i64 10] w fun e w' => e = .returned (.string (⟨#[94]⟩ : ByteArray)) ∧ Drawn0 w w' := by
  have e0 : (⟨#[43, 32, 32, 45, 32, 32, 42, 32, 32, 47, 32, 32, 37, 32, 32, 60, 60, 32, 62, 62, 32, 38, 32, 32, 124, 32, 32, 94, 32, 32, 60, 32, 32, 60, 61, 32, 62, 32, 32, 62, 61, 32, 61, 61, 32, 33, 61, 32, 38, 38, 32, 124, 124, 32, 45, 32, 32, 33, 32, 32, 126, 32, 32]⟩ : ByteArray).extract 27 30 = (⟨#[94, 32, 32]⟩ : ByteArray) := by decide +kernel
  have e1 : (⟨#[94, 32, 32]⟩ : ByteArray).extract 0 2 = (⟨#[94, 32]⟩ : ByteArray) := by decide +kernel
  have f1 : (((((⟨#[94, 32, 32]⟩ : ByteArray))[2]'(by decide)).toNat : Int) == 32) = true := by decide +kernel
  have e2 : (⟨#[94, 32]⟩ : ByteArray).extract 0 1 = (⟨#[94]⟩ : ByteArray) := by decide +kernel
  have f2 : (((((⟨#[94, 32]⟩ : ByteArray))[1]'(by decide)).toNat : Int) == 32) = true := by decide +kernel
  have f3 : (((((⟨#[94]⟩ : ByteArray))[0]'(by decide)).toNat : Int) == 32) = false := by decide +kernel
  go_enter Try.func29, Try.ntmps29
  go_wp2
  refine wp_loop_rounds 3 ?_; rw [rounds_succ]
  go_wp2
  rw [rounds_succ]
  go_wp2
  rw [rounds_succ]
  go_wp2
  go_ret
  exact ⟨rfl, Drawn0.refl _⟩
set_option maxHeartbeats 8000000 in
set_option maxRecDepth 100000 in
theorem brazierref01_Sign.s11 (w : World) :
    Calls Try.prog 29 #[.int .i64 11] w fun e w' => e = .returned (.string (⟨#[60]⟩ : ByteArray)) ∧ Drawn0 w w' := by
  have e0 : (⟨#[43, 32, 32, 45, 32, 32, 42, 32, 32, 47, 32, 32, 37, 32, 32, 60, 60, 32, 62, 62, 32, 38, 32, 32, 124, 32, 32, 94, 32, 32, 60, 32, 32, 60, 61, 32, 62, 32, 32, 62, 61, 32, 61, 61, 32, 33, 61, 32, 38, 38, 32, 124, 124, 32, 45, 32, 32, 33, 32, 32, 126, 32, 32]⟩ : ByteArray).extract 30 33 = (⟨#[60, 32, 32]⟩ : ByteArray) := by decide +kernel
  have e1 : (⟨#[60, 32, 32]⟩ : ByteArray).extract 0 2 = (⟨#[60, 32]⟩ : ByteArray) := by decide +kernel
  have f1 : (((((⟨#[60, 32, 32]⟩ : ByteArray))[2]'(by decide)).toNat : Int) == 32) = true := by decide +kernel
  have e2 : (⟨#[60, 32]⟩ : ByteArray).extract 0 1 = (⟨#[60]⟩ : ByteArray) := by decide +kernel
  have f2 : (((((⟨#[60, 32]⟩ : ByteArray))[1]'(by decide)).toNat : Int) == 32) = true := by decide +kernel
  have f3 : (((((⟨#[60]⟩ : ByteArray))[0]'(by decide)).toNat : Int) == 32) = false := by decide +kernel
  go_enter Try.func29, Try.ntmps29
  go_wp2
  refine wp_loop_rounds 3 ?_; rw [rounds_succ]
  go_wp2
  rw [rounds_succ]
  go_wp2
  rw [rounds_succ]
  go_wp2
  go_ret
  exact ⟨rfl, Drawn0.refl _⟩
set_option maxHeartbeats 8000000 in
set_option maxRecDepth 100000 in
theorem brazierref01_Sign.s12 (w : World) :
    Calls Try.prog 29 #[.int .i64 12] w fun e w' => e = .returned (.string (⟨#[60, 61]⟩ : ByteArray)) ∧ Drawn0 w w' := by
  have e0 : (⟨#[43, 32, 32, 45, 32, 32, 42, 32, 32, 47, 32, 32, 37, 32, 32, 60, 60, 32, 62, 62, 32, 38, 32, 32, 124, 32, 32, 94, 32, 32, 60, 32, 32, 60, 61, 32, 62, 32, 32, 62, 61, 32, 61, 61, 32, 33, 61, 32, 38, 38, 32, 124, 124, 32, 45, 32, 32, 33, 32, 32, 126, 32, 32]⟩ : ByteArray).extract 33 36 = (⟨#[60, 61, 32]⟩ : ByteArray) := by decide +kernel
  have e1 : (⟨#[60, 61, 32]⟩ : ByteArray).extract 0 2 = (⟨#[60, 61]⟩ : ByteArray) := by decide +kernel
  have f1 : (((((⟨#[60, 61, 32]⟩ : ByteArray))[2]'(by decide)).toNat : Int) == 32) = true := by decide +kernel
  have f2 : (((((⟨#[60, 61]⟩ : ByteArray))[1]'(by decide)).toNat : Int) == 32) = false := by decide +kernel
  go_enter Try.func29, Try.ntmps29
  go_wp2
  refine wp_loop_rounds 2 ?_; rw [rounds_succ]
  go_wp2
  rw [rounds_succ]
  go_wp2
  go_ret
  exact ⟨rfl, Drawn0.refl _⟩
set_option maxHeartbeats 8000000 in
set_option maxRecDepth 100000 in
theorem brazierref01_Sign.s13 (w : World) :
    Calls Try.prog 29 #[.int .i64 13] w fun e w' => e = .returned (.string (⟨#[62]⟩ : ByteArray)) ∧ Drawn0 w w' := by
  have e0 : (⟨#[43, 32, 32, 45, 32, 32, 42, 32, 32, 47, 32, 32, 37, 32, 32, 60, 60, 32, 62, 62, 32, 38, 32, 32, 124, 32, 32, 94, 32, 32, 60, 32, 32, 60, 61, 32, 62, 32, 32, 62, 61, 32, 61, 61, 32, 33, 61, 32, 38, 38, 32, 124, 124, 32, 45, 32, 32, 33, 32, 32, 126, 32, 32]⟩ : ByteArray).extract 36 39 = (⟨#[62, 32, 32]⟩ : ByteArray) := by decide +kernel
  have e1 : (⟨#[62, 32, 32]⟩ : ByteArray).extract 0 2 = (⟨#[62, 32]⟩ : ByteArray) := by decide +kernel
  have f1 : (((((⟨#[62, 32, 32]⟩ : ByteArray))[2]'(by decide)).toNat : Int) == 32) = true := by decide +kernel
  have e2 : (⟨#[62, 32]⟩ : ByteArray).extract 0 1 = (⟨#[62]⟩ : ByteArray) := by decide +kernel
  have f2 : (((((⟨#[62, 32]⟩ : ByteArray))[1]'(by decide)).toNat : Int) == 32) = true := by decide +kernel
  have f3 : (((((⟨#[62]⟩ : ByteArray))[0]'(by decide)).toNat : Int) == 32) = false := by decide +kernel
  go_enter Try.func29, Try.ntmps29
  go_wp2
  refine wp_loop_rounds 3 ?_; rw [rounds_succ]
  go_wp2
  rw [rounds_succ]
  go_wp2
  rw [rounds_succ]
  go_wp2
  go_ret
  exact ⟨rfl, Drawn0.refl _⟩
set_option maxHeartbeats 8000000 in
set_option maxRecDepth 100000 in
theorem brazierref01_Sign.s14 (w : World) :
    Calls Try.prog 29 #[.int .i64 14] w fun e w' => e = .returned (.string (⟨#[62, 61]⟩ : ByteArray)) ∧ Drawn0 w w' := by
  have e0 : (⟨#[43, 32, 32, 45, 32, 32, 42, 32, 32, 47, 32, 32, 37, 32, 32, 60, 60, 32, 62, 62, 32, 38, 32, 32, 124, 32, 32, 94, 32, 32, 60, 32, 32, 60, 61, 32, 62, 32, 32, 62, 61, 32, 61, 61, 32, 33, 61, 32, 38, 38, 32, 124, 124, 32, 45, 32, 32, 33, 32, 32, 126, 32, 32]⟩ : ByteArray).extract 39 42 = (⟨#[62, 61, 32]⟩ : ByteArray) := by decide +kernel
  have e1 : (⟨#[62, 61, 32]⟩ : ByteArray).extract 0 2 = (⟨#[62, 61]⟩ : ByteArray) := by decide +kernel
  have f1 : (((((⟨#[62, 61, 32]⟩ : ByteArray))[2]'(by decide)).toNat : Int) == 32) = true := by decide +kernel
  have f2 : (((((⟨#[62, 61]⟩ : ByteArray))[1]'(by decide)).toNat : Int) == 32) = false := by decide +kernel
  go_enter Try.func29, Try.ntmps29
  go_wp2
  refine wp_loop_rounds 2 ?_; rw [rounds_succ]
  go_wp2
  rw [rounds_succ]
  go_wp2
  go_ret
  exact ⟨rfl, Drawn0.refl _⟩
set_option maxHeartbeats 8000000 in
set_option maxRecDepth 100000 in
theorem brazierref01_Sign.s15 (w : World) :
    Calls Try.prog 29 #[.int .i64 15] w fun e w' => e = .returned (.string (⟨#[61, 61]⟩ : ByteArray)) ∧ Drawn0 w w' := by
  have e0 : (⟨#[43, 32, 32, 45, 32, 32, 42, 32, 32, 47, 32, 32, 37, 32, 32, 60, 60, 32, 62, 62, 32, 38, 32, 32, 124, 32, 32, 94, 32, 32, 60, 32, 32, 60, 61, 32, 62, 32, 32, 62, 61, 32, 61, 61, 32, 33, 61, 32, 38, 38, 32, 124, 124, 32, 45, 32, 32, 33, 32, 32, 126, 32, 32]⟩ : ByteArray).extract 42 45 = (⟨#[61, 61, 32]⟩ : ByteArray) := by decide +kernel
  have e1 : (⟨#[61, 61, 32]⟩ : ByteArray).extract 0 2 = (⟨#[61, 61]⟩ : ByteArray) := by decide +kernel
  have f1 : (((((⟨#[61, 61, 32]⟩ : ByteArray))[2]'(by decide)).toNat : Int) == 32) = true := by decide +kernel
  have f2 : (((((⟨#[61, 61]⟩ : ByteArray))[1]'(by decide)).toNat : Int) == 32) = false := by decide +kernel
  go_enter Try.func29, Try.ntmps29
  go_wp2
  refine wp_loop_rounds 2 ?_; rw [rounds_succ]
  go_wp2
  rw [rounds_succ]
  go_wp2
  go_ret
  exact ⟨rfl, Drawn0.refl _⟩
set_option maxHeartbeats 8000000 in
set_option maxRecDepth 100000 in
theorem brazierref01_Sign.s16 (w : World) :
    Calls Try.prog 29 #[.int .i64 16] w fun e w' => e = .returned (.string (⟨#[33, 61]⟩ : ByteArray)) ∧ Drawn0 w w' := by
  have e0 : (⟨#[43, 32, 32, 45, 32, 32, 42, 32, 32, 47, 32, 32, 37, 32, 32, 60, 60, 32, 62, 62, 32, 38, 32, 32, 124, 32, 32, 94, 32, 32, 60, 32, 32, 60, 61, 32, 62, 32, 32, 62, 61, 32, 61, 61, 32, 33, 61, 32, 38, 38, 32, 124, 124, 32, 45, 32, 32, 33, 32, 32, 126, 32, 32]⟩ : ByteArray).extract 45 48 = (⟨#[33, 61, 32]⟩ : ByteArray) := by decide +kernel
  have e1 : (⟨#[33, 61, 32]⟩ : ByteArray).extract 0 2 = (⟨#[33, 61]⟩ : ByteArray) := by decide +kernel
  have f1 : (((((⟨#[33, 61, 32]⟩ : ByteArray))[2]'(by decide)).toNat : Int) == 32) = true := by decide +kernel
  have f2 : (((((⟨#[33, 61]⟩ : ByteArray))[1]'(by decide)).toNat : Int) == 32) = false := by decide +kernel
  go_enter Try.func29, Try.ntmps29
  go_wp2
  refine wp_loop_rounds 2 ?_; rw [rounds_succ]
  go_wp2
  rw [rounds_succ]
  go_wp2
  go_ret
  exact ⟨rfl, Drawn0.refl _⟩
set_option maxHeartbeats 8000000 in
set_option maxRecDepth 100000 in
theorem brazierref01_Sign.s17 (w : World) :
    Calls Try.prog 29 #[.int .i64 17] w fun e w' => e = .returned (.string (⟨#[38, 38]⟩ : ByteArray)) ∧ Drawn0 w w' := by
  have e0 : (⟨#[43, 32, 32, 45, 32, 32, 42, 32, 32, 47, 32, 32, 37, 32, 32, 60, 60, 32, 62, 62, 32, 38, 32, 32, 124, 32, 32, 94, 32, 32, 60, 32, 32, 60, 61, 32, 62, 32, 32, 62, 61, 32, 61, 61, 32, 33, 61, 32, 38, 38, 32, 124, 124, 32, 45, 32, 32, 33, 32, 32, 126, 32, 32]⟩ : ByteArray).extract 48 51 = (⟨#[38, 38, 32]⟩ : ByteArray) := by decide +kernel
  have e1 : (⟨#[38, 38, 32]⟩ : ByteArray).extract 0 2 = (⟨#[38, 38]⟩ : ByteArray) := by decide +kernel
  have f1 : (((((⟨#[38, 38, 32]⟩ : ByteArray))[2]'(by decide)).toNat : Int) == 32) = true := by decide +kernel
  have f2 : (((((⟨#[38, 38]⟩ : ByteArray))[1]'(by decide)).toNat : Int) == 32) = false := by decide +kernel
  go_enter Try.func29, Try.ntmps29
  go_wp2
  refine wp_loop_rounds 2 ?_; rw [rounds_succ]
  go_wp2
  rw [rounds_succ]
  go_wp2
  go_ret
  exact ⟨rfl, Drawn0.refl _⟩
set_option maxHeartbeats 8000000 in
set_option maxRecDepth 100000 in
theorem brazierref01_Sign.s18 (w : World) :
    Calls Try.prog 29 #[.int .i64 18] w fun e w' => e = .returned (.string (⟨#[124, 124]⟩ : ByteArray)) ∧ Drawn0 w w' := by
  have e0 : (⟨#[43, 32, 32, 45, 32, 32, 42, 32, 32, 47, 32, 32, 37, 32, 32, 60, 60, 32, 62, 62, 32, 38, 32, 32, 124, 32, 32, 94, 32, 32, 60, 32, 32, 60, 61, 32, 62, 32, 32, 62, 61, 32, 61, 61, 32, 33, 61, 32, 38, 38, 32, 124, 124, 32, 45, 32, 32, 33, 32, 32, 126, 32, 32]⟩ : ByteArray).extract 51 54 = (⟨#[124, 124, 32]⟩ : ByteArray) := by decide +kernel
  have e1 : (⟨#[124, 124, 32]⟩ : ByteArray).extract 0 2 = (⟨#[124, 124]⟩ : ByteArray) := by decide +kernel
  have f1 : (((((⟨#[124, 124, 32]⟩ : ByteArray))[2]'(by decide)).toNat : Int) == 32) = true := by decide +kernel
  have f2 : (((((⟨#[124, 124]⟩ : ByteArray))[1]'(by decide)).toNat : Int) == 32) = false := by decide +kernel
  go_enter Try.func29, Try.ntmps29
  go_wp2
  refine wp_loop_rounds 2 ?_; rw [rounds_succ]
  go_wp2
  rw [rounds_succ]
  go_wp2
  go_ret
  exact ⟨rfl, Drawn0.refl _⟩
set_option maxHeartbeats 8000000 in
set_option maxRecDepth 100000 in
theorem brazierref01_Sign.s19 (w : World) :
    Calls Try.prog 29 #[.int .i64 19] w fun e w' => e = .returned (.string (⟨#[45]⟩ : ByteArray)) ∧ Drawn0 w w' := by
  have e0 : (⟨#[43, 32, 32, 45, 32, 32, 42, 32, 32, 47, 32, 32, 37, 32, 32, 60, 60, 32, 62, 62, 32, 38, 32, 32, 124, 32, 32, 94, 32, 32, 60, 32, 32, 60, 61, 32, 62, 32, 32, 62, 61, 32, 61, 61, 32, 33, 61, 32, 38, 38, 32, 124, 124, 32, 45, 32, 32, 33, 32, 32, 126, 32, 32]⟩ : ByteArray).extract 54 57 = (⟨#[45, 32, 32]⟩ : ByteArray) := by decide +kernel
  have e1 : (⟨#[45, 32, 32]⟩ : ByteArray).extract 0 2 = (⟨#[45, 32]⟩ : ByteArray) := by decide +kernel
  have f1 : (((((⟨#[45, 32, 32]⟩ : ByteArray))[2]'(by decide)).toNat : Int) == 32) = true := by decide +kernel
  have e2 : (⟨#[45, 32]⟩ : ByteArray).extract 0 1 = (⟨#[45]⟩ : ByteArray) := by decide +kernel
  have f2 : (((((⟨#[45, 32]⟩ : ByteArray))[1]'(by decide)).toNat : Int) == 32) = true := by decide +kernel
  have f3 : (((((⟨#[45]⟩ : ByteArray))[0]'(by decide)).toNat : Int) == 32) = false := by decide +kernel
  go_enter Try.func29, Try.ntmps29
  go_wp2
  refine wp_loop_rounds 3 ?_; rw [rounds_succ]
  go_wp2
  rw [rounds_succ]
  go_wp2
  rw [rounds_succ]
  go_wp2
  go_ret
  exact ⟨rfl, Drawn0.refl _⟩
set_option maxHeartbeats 8000000 in
set_option maxRecDepth 100000 in
theorem brazierref01_Sign.s20 (w : World) :
    Calls Try.prog 29 #[.int .i64 20] w fun e w' => e = .returned (.string (⟨#[33]⟩ : ByteArray)) ∧ Drawn0 w w' := by
  have e0 : (⟨#[43, 32, 32, 45, 32, 32, 42, 32, 32, 47, 32, 32, 37, 32, 32, 60, 60, 32, 62, 62, 32, 38, 32, 32, 124, 32, 32, 94, 32, 32, 60, 32, 32, 60, 61, 32, 62, 32, 32, 62, 61, 32, 61, 61, 32, 33, 61, 32, 38, 38, 32, 124, 124, 32, 45, 32, 32, 33, 32, 32, 126, 32, 32]⟩ : ByteArray).extract 57 60 = (⟨#[33, 32, 32]⟩ : ByteArray) := by decide +kernel
  have e1 : (⟨#[33, 32, 32]⟩ : ByteArray).extract 0 2 = (⟨#[33, 32]⟩ : ByteArray) := by decide +kernel
  have f1 : (((((⟨#[33, 32, 32]⟩ : ByteArray))[2]'(by decide)).toNat : Int) == 32) = true := by decide +kernel
  have e2 : (⟨#[33, 32]⟩ : ByteArray).extract 0 1 = (⟨#[33]⟩ : ByteArray) := by decide +kernel
  have f2 : (((((⟨#[33, 32]⟩ : ByteArray))[1]'(by decide)).toNat : Int) == 32) = true := by decide +kernel
  have f3 : (((((⟨#[33]⟩ : ByteArray))[0]'(by decide)).toNat : Int) == 32) = false := by decide +kernel
  go_enter Try.func29, Try.ntmps29
  go_wp2
  refine wp_loop_rounds 3 ?_; rw [rounds_succ]
  go_wp2
  rw [rounds_succ]
  go_wp2
  rw [rounds_succ]
  go_wp2
  go_ret
  exact ⟨rfl, Drawn0.refl _⟩
set_option maxHeartbeats 8000000 in
set_option maxRecDepth 100000 in
theorem brazierref01_Sign.s21 (w : World) :
    Calls Try.prog 29 #[.int .i64 21] w fun e w' => e = .returned (.string (⟨#[126]⟩ : ByteArray)) ∧ Drawn0 w w' := by
  have e0 : (⟨#[43, 32, 32, 45, 32, 32, 42, 32, 32, 47, 32, 32, 37, 32, 32, 60, 60, 32, 62, 62, 32, 38, 32, 32, 124, 32, 32, 94, 32, 32, 60, 32, 32, 60, 61, 32, 62, 32, 32, 62, 61, 32, 61, 61, 32, 33, 61, 32, 38, 38, 32, 124, 124, 32, 45, 32, 32, 33, 32, 32, 126, 32, 32]⟩ : ByteArray).extract 60 63 = (⟨#[126, 32, 32]⟩ : ByteArray) := by decide +kernel
  have e1 : (⟨#[126, 32, 32]⟩ : ByteArray).extract 0 2 = (⟨#[126, 32]⟩ : ByteArray) := by decide +kernel
  have f1 : (((((⟨#[126, 32, 32]⟩ : ByteArray))[2]'(by decide)).toNat : Int) == 32) = true := by decide +kernel
  have e2 : (⟨#[126, 32]⟩ : ByteArray).extract 0 1 = (⟨#[126]⟩ : ByteArray) := by decide +kernel
  have f2 : (((((⟨#[126, 32]⟩ : ByteArray))[1]'(by decide)).toNat : Int) == 32) = true := by decide +kernel
  have f3 : (((((⟨#[126]⟩ : ByteArray))[0]'(by decide)).toNat : Int) == 32) = false := by decide +kernel
  go_enter Try.func29, Try.ntmps29
  go_wp2
  refine wp_loop_rounds 3 ?_; rw [rounds_succ]
  go_wp2
  rw [rounds_succ]
  go_wp2
  rw [rounds_succ]
  go_wp2
  go_ret
  exact ⟨rfl, Drawn0.refl _⟩
set_option maxHeartbeats 8000000 in
set_option maxRecDepth 100000 in
theorem brazierref01_Sign.low (a0 : Int) (w : World) (h : a0 < 1) :
    Calls Try.prog 29 #[.int .i64 a0] w fun e w' => e = .returned (.string (⟨#[]⟩ : ByteArray)) ∧ Drawn0 w w' := by
  have c0 : decide (a0 < 1) = true := decide_eq_true h
  clear h
  go_enter Try.func29, Try.ntmps29
  go_wp2
  go_ret
  exact ⟨rfl, Drawn0.refl _⟩
set_option maxHeartbeats 8000000 in
set_option maxRecDepth 100000 in
theorem brazierref01_Sign.high (a0 : Int) (w : World) (h : 21 < a0) :
    Calls Try.prog 29 #[.int .i64 a0] w fun e w' => e = .returned (.string (⟨#[]⟩ : ByteArray)) ∧ Drawn0 w w' := by
  have c0 : decide (a0 < 1) = false := decide_eq_false (by omega)
  have c1 : decide (21 < a0) = true := decide_eq_true h
  clear h
  go_enter Try.func29, Try.ntmps29
  go_wp2
  go_ret
  exact ⟨rfl, Drawn0.refl _⟩
def brazierref01_Sign.f (a0 : Int) : Option ByteArray := if a0 < 1 then some (⟨#[]⟩ : ByteArray) else if 21 < a0 then some (⟨#[]⟩ : ByteArray) else if a0 = 1 then some (⟨#[43]⟩ : ByteArray) else if a0 = 2 then some (⟨#[45]⟩ : ByteArray) else if a0 = 3 then some (⟨#[42]⟩ : ByteArray) else if a0 = 4 then some (⟨#[47]⟩ : ByteArray) else if a0 = 5 then some (⟨#[37]⟩ : ByteArray) else if a0 = 6 then some (⟨#[60, 60]⟩ : ByteArray) else if a0 = 7 then some (⟨#[62, 62]⟩ : ByteArray) else if a0 = 8 then some (⟨#[38]⟩ : ByteArray) else if a0 = 9 then some (⟨#[124]⟩ : ByteArray) else if a0 = 10 then some (⟨#[94]⟩ : ByteArray) else if a0 = 11 then some (⟨#[60]⟩ : ByteArray) else if a0 = 12 then some (⟨#[60, 61]⟩ : ByteArray) else if a0 = 13 then some (⟨#[62]⟩ : ByteArray) else if a0 = 14 then some (⟨#[62, 61]⟩ : ByteArray) else if a0 = 15 then some (⟨#[61, 61]⟩ : ByteArray) else if a0 = 16 then some (⟨#[33, 61]⟩ : ByteArray) else if a0 = 17 then some (⟨#[38, 38]⟩ : ByteArray) else if a0 = 18 then some (⟨#[124, 124]⟩ : ByteArray) else if a0 = 19 then some (⟨#[45]⟩ : ByteArray) else if a0 = 20 then some (⟨#[33]⟩ : ByteArray) else if a0 = 21 then some (⟨#[126]⟩ : ByteArray) else none
theorem brazierref01_Sign.calls (a0 : Int) (r : ByteArray) (w : World) (h : brazierref01_Sign.f a0 = some r) :
    Calls Try.prog 29 #[.int .i64 a0] w fun e w' => e = .returned (.string r) ∧ Drawn0 w w' := by
  unfold brazierref01_Sign.f at h
  by_cases h1 : a0 < 1
  · rw [if_pos h1] at h; obtain rfl := Option.some.inj h; exact brazierref01_Sign.low a0 w h1
  rw [if_neg h1] at h
  by_cases h2 : 21 < a0
  · rw [if_pos h2] at h; obtain rfl := Option.some.inj h; exact brazierref01_Sign.high a0 w h2
  rw [if_neg h2] at h
  by_cases g1 : a0 = 1
  · rw [if_pos g1] at h; obtain rfl := Option.some.inj h; subst g1; exact brazierref01_Sign.s1 w
  rw [if_neg g1] at h
  by_cases g2 : a0 = 2
  · rw [if_pos g2] at h; obtain rfl := Option.some.inj h; subst g2; exact brazierref01_Sign.s2 w
  rw [if_neg g2] at h
  by_cases g3 : a0 = 3
  · rw [if_pos g3] at h; obtain rfl := Option.some.inj h; subst g3; exact brazierref01_Sign.s3 w
  rw [if_neg g3] at h
  by_cases g4 : a0 = 4
  · rw [if_pos g4] at h; obtain rfl := Option.some.inj h; subst g4; exact brazierref01_Sign.s4 w
  rw [if_neg g4] at h
  by_cases g5 : a0 = 5
  · rw [if_pos g5] at h; obtain rfl := Option.some.inj h; subst g5; exact brazierref01_Sign.s5 w
  rw [if_neg g5] at h
  by_cases g6 : a0 = 6
  · rw [if_pos g6] at h; obtain rfl := Option.some.inj h; subst g6; exact brazierref01_Sign.s6 w
  rw [if_neg g6] at h
  by_cases g7 : a0 = 7
  · rw [if_pos g7] at h; obtain rfl := Option.some.inj h; subst g7; exact brazierref01_Sign.s7 w
  rw [if_neg g7] at h
  by_cases g8 : a0 = 8
  · rw [if_pos g8] at h; obtain rfl := Option.some.inj h; subst g8; exact brazierref01_Sign.s8 w
  rw [if_neg g8] at h
  by_cases g9 : a0 = 9
  · rw [if_pos g9] at h; obtain rfl := Option.some.inj h; subst g9; exact brazierref01_Sign.s9 w
  rw [if_neg g9] at h
  by_cases g10 : a0 = 10
  · rw [if_pos g10] at h; obtain rfl := Option.some.inj h; subst g10; exact brazierref01_Sign.s10 w
  rw [if_neg g10] at h
  by_cases g11 : a0 = 11
  · rw [if_pos g11] at h; obtain rfl := Option.some.inj h; subst g11; exact brazierref01_Sign.s11 w
  rw [if_neg g11] at h
  by_cases g12 : a0 = 12
  · rw [if_pos g12] at h; obtain rfl := Option.some.inj h; subst g12; exact brazierref01_Sign.s12 w
  rw [if_neg g12] at h
  by_cases g13 : a0 = 13
  · rw [if_pos g13] at h; obtain rfl := Option.some.inj h; subst g13; exact brazierref01_Sign.s13 w
  rw [if_neg g13] at h
  by_cases g14 : a0 = 14
  · rw [if_pos g14] at h; obtain rfl := Option.some.inj h; subst g14; exact brazierref01_Sign.s14 w
  rw [if_neg g14] at h
  by_cases g15 : a0 = 15
  · rw [if_pos g15] at h; obtain rfl := Option.some.inj h; subst g15; exact brazierref01_Sign.s15 w
  rw [if_neg g15] at h
  by_cases g16 : a0 = 16
  · rw [if_pos g16] at h; obtain rfl := Option.some.inj h; subst g16; exact brazierref01_Sign.s16 w
  rw [if_neg g16] at h
  by_cases g17 : a0 = 17
  · rw [if_pos g17] at h; obtain rfl := Option.some.inj h; subst g17; exact brazierref01_Sign.s17 w
  rw [if_neg g17] at h
  by_cases g18 : a0 = 18
  · rw [if_pos g18] at h; obtain rfl := Option.some.inj h; subst g18; exact brazierref01_Sign.s18 w
  rw [if_neg g18] at h
  by_cases g19 : a0 = 19
  · rw [if_pos g19] at h; obtain rfl := Option.some.inj h; subst g19; exact brazierref01_Sign.s19 w
  rw [if_neg g19] at h
  by_cases g20 : a0 = 20
  · rw [if_pos g20] at h; obtain rfl := Option.some.inj h; subst g20; exact brazierref01_Sign.s20 w
  rw [if_neg g20] at h
  by_cases g21 : a0 = 21
  · rw [if_pos g21] at h; obtain rfl := Option.some.inj h; subst g21; exact brazierref01_Sign.s21 w
  rw [if_neg g21] at h
  cases h

/-! ### brazierlaw01_WordUns: function 10 -/
def brazierlaw01_WordUns.f (k : Nat) (a0 : Int) (a1 : Int) : Option (Bool) := (word_Un.f a0 a1).bind fun bt276 => ((brazierref01_Un.f a0 a1).bind fun bt278 => (if bt276.1 = bt278.1 then (if (bt276.2 == bt278.2) = true then ((word_Sign.f a0).bind fun t280 => ((brazierref01_Sign.f a0).bind fun t281 => (if t280.toList = t281.toList then ((brazierlaw01_lives.f k).bind fun t282 => (some t282)) else (some false)))) else (some false)) else (some false)))
theorem brazierlaw01_WordUns.mono : ∀ a0 a1 k, LeO (brazierlaw01_WordUns.f k a0 a1) (brazierlaw01_WordUns.f (k + 1) a0 a1) := by
  intro a0 a1 k
  unfold brazierlaw01_WordUns.f
  repeat' first
      | (with_reducible exact brazierlaw01_lives.mono _)
      | (with_reducible exact LeO.refl _)
      | (with_reducible exact LeO.none _)
      | (with_reducible refine LeO.ite ?_ ?_)
      | (with_reducible refine LeO.bind ?_ (fun _ => ?_))
      | exact brazierlaw01_lives.mono _
      | exact LeO.none _
      | refine LeO.ite ?_ ?_
      | refine LeO.bind ?_ (fun _ => ?_)
set_option maxHeartbeats 8000000 in
set_option maxRecDepth 100000 in
theorem brazierlaw01_WordUns.calls (k : Nat) (a0 : Int) (a1 : Int) (r : Bool) (w : World) (h : brazierlaw01_WordUns.f k a0 a1 = some r) :
    Calls Try.prog 10 #[.int .i64 a0, .int .i32 a1] w fun e w' => e = .returned (.bool r) ∧ Below w.heap.size w w' := by
  have HB := Aside0.mk (Below.refl w.heap.size w)
  have H : ((word_Un.f a0 a1).bind fun bt276 => ((brazierref01_Un.f a0 a1).bind fun bt278 => (if bt276.1 = bt278.1 then (if (bt276.2 == bt278.2) = true then ((word_Sign.f a0).bind fun t280 => ((brazierref01_Sign.f a0).bind fun t281 => (if t280.toList = t281.toList then ((brazierlaw01_lives.f k).bind fun t282 => (some t282)) else (some false)))) else (some false)) else (some false)))) = some r := h
  clear h
  replace H := Option.bind_eq_some_iff.mp H
  obtain ⟨⟨t276, t277⟩, A30, H⟩ := H
  replace H : ((brazierref01_Un.f a0 a1).bind fun bt278 => (if t276 = bt278.1 then (if (t277 == bt278.2) = true then ((word_Sign.f a0).bind fun t280 => ((brazierref01_Sign.f a0).bind fun t281 => (if t280.toList = t281.toList then ((brazierlaw01_lives.f k).bind fun t282 => (some t282)) else (some false)))) else (some false)) else (some false))) = some r := H
  have A3 := Aside0.mk A30
  clear A30
  replace H := Option.bind_eq_some_iff.mp H
  obtain ⟨⟨t278, t279⟩, A40, H⟩ := H
  replace H : (if t276 = t278 then (if (t277 == t279) = true then ((word_Sign.f a0).bind fun t280 => ((brazierref01_Sign.f a0).bind fun t281 => (if t280.toList = t281.toList then ((brazierlaw01_lives.f k).bind fun t282 => (some t282)) else (some false)))) else (some false)) else (some false)) = some r := H
  have A4 := Aside0.mk A40
  clear A40
  by_cases c5 : t276 = t278
  · rw [if_pos c5] at H
    have c5b0 : (t276 == t278) = true := beq_iff_eq.mpr c5
    have c5b1 : (t276 != t278) = false := bne_eq_false_iff_eq.mpr c5
    clear c5
    by_cases c6 : (t277 == t279) = true
    · rw [if_pos c6] at H
      have c6b0 : (t277 == t279) = true := c6
      (try (have c6b1 : decide (t277 = t279) = true := by simpa using c6))
      (try (have c6b2 : (t277 == t279) = true := by simpa using c6))
      clear c6
      replace H := Option.bind_eq_some_iff.mp H
      obtain ⟨t280, A70, H⟩ := H
      replace H : ((brazierref01_Sign.f a0).bind fun t281 => (if t280.toList = t281.toList then ((brazierlaw01_lives.f k).bind fun t282 => (some t282)) else (some false))) = some r := H
      have A7 := Aside0.mk A70
      clear A70
      replace H := Option.bind_eq_some_iff.mp H
      obtain ⟨t281, A80, H⟩ := H
      replace H : (if t280.toList = t281.toList then ((brazierlaw01_lives.f k).bind fun t282 => (some t282)) else (some false)) = some r := H
      have A8 := Aside0.mk A80
      clear A80
      by_cases c9 : t280.toList = t281.toList
      · rw [if_pos c9] at H
        have c9b0 : (t280.toList == t281.toList) = true := beq_iff_eq.mpr c9
        have c9b1 : (t280.toList != t281.toList) = false := bne_eq_false_iff_eq.mpr c9
        clear c9
        replace H := Option.bind_eq_some_iff.mp H
        obtain ⟨t282, A100, H⟩ := H
        replace H : (some t282) = some r := H
        have A10 := Aside0.mk A100
        clear A100
        obtain rfl := Option.some.inj H
        go_enter Try.func10, Try.ntmps10
        go_wp2_with (first | ((with_reducible refine gate_callee (f := 23) rfl ?_); refine goesL_ (some 12) rfl rfl Try.func23 (by kernel_rfl) rfl #[.int .i64 a0, .int .i32 a1] rfl (by (try simp only [List.map_toArray, List.map_cons, List.map_nil]); first | done | rfl | (simp only [List.length_drop, List.length_take]; rfl)) ?_; (with_reducible refine (word_Un.calls a0 a1 t276 t277 _ A3.out).mono ?_); rintro e w' ⟨rfl, ⟨nd, rfl⟩⟩; refine ⟨_, rfl, ?_⟩) | ((with_reducible refine gate_callee (f := 27) rfl ?_); refine goesL_ (some 18) rfl rfl Try.func27 (by kernel_rfl) rfl #[.int .i64 a0, .int .i32 a1] rfl (by (try simp only [List.map_toArray, List.map_cons, List.map_nil]); first | done | rfl | (simp only [List.length_drop, List.length_take]; rfl)) ?_; (with_reducible refine (brazierref01_Un.calls a0 a1 t278 t279 _ A4.out).mono ?_); rintro e w' ⟨rfl, ⟨nd, rfl⟩⟩; refine ⟨_, rfl, ?_⟩) | (go_at_call 28; (with_reducible refine (word_Sign.calls a0 t280 _ A7.out).mono ?_); rintro e w11 ⟨rfl, hb⟩; have n0_ := Aside0.mk (below_step (by repeat (first | (with_reducible first | exact HB.out | apply below_alloc | apply pw_below_drewN | apply below_drew1) | exact HB.out)) hb); clear HB; have HB := n0_; clear n0_; (try clear hb); (try clear hb2); (try clear hk); (try clear hi)) | (go_at_call 29; (with_reducible refine (brazierref01_Sign.calls a0 t281 _ A8.out).mono ?_); rintro e w' ⟨rfl, ⟨nd, rfl⟩⟩) | (go_at_call 14; (with_reducible refine (brazierlaw01_lives.calls k  t282 _ A10.out).mono ?_); rintro e w12 ⟨rfl, hb⟩; have n0_ := Aside0.mk (below_step (by repeat (first | (with_reducible first | exact HB.out | apply below_alloc | apply pw_below_drewN | apply below_drew1) | exact HB.out)) hb); clear HB; have HB := n0_; clear n0_; (try clear hb); (try clear hb2); (try clear hk); (try clear hi)))
        go_ret
        exact ⟨by first | rfl | (simp [errW_none, errW_some] <;> rfl) | (simp [*, errW_none, errW_some] <;> rfl), by repeat (first | (with_reducible first | exact HB.out | apply below_alloc | apply pw_below_drewN | apply below_drew1) | exact HB.out)⟩
      · rw [if_neg c9] at H
        have c9b0 : (t280.toList == t281.toList) = false := beq_eq_false_iff_ne.mpr c9
        have c9b1 : (t280.toList != t281.toList) = true := bne_iff_ne.mpr c9
        obtain rfl := Option.some.inj H
        go_enter Try.func10, Try.ntmps10
        go_wp2_with (first | ((with_reducible refine gate_callee (f := 23) rfl ?_); refine goesL_ (some 12) rfl rfl Try.func23 (by kernel_rfl) rfl #[.int .i64 a0, .int .i32 a1] rfl (by (try simp only [List.map_toArray, List.map_cons, List.map_nil]); first | done | rfl | (simp only [List.length_drop, List.length_take]; rfl)) ?_; (with_reducible refine (word_Un.calls a0 a1 t276 t277 _ A3.out).mono ?_); rintro e w' ⟨rfl, ⟨nd, rfl⟩⟩; refine ⟨_, rfl, ?_⟩) | ((with_reducible refine gate_callee (f := 27) rfl ?_); refine goesL_ (some 18) rfl rfl Try.func27 (by kernel_rfl) rfl #[.int .i64 a0, .int .i32 a1] rfl (by (try simp only [List.map_toArray, List.map_cons, List.map_nil]); first | done | rfl | (simp only [List.length_drop, List.length_take]; rfl)) ?_; (with_reducible refine (brazierref01_Un.calls a0 a1 t278 t279 _ A4.out).mono ?_); rintro e w' ⟨rfl, ⟨nd, rfl⟩⟩; refine ⟨_, rfl, ?_⟩) | (go_at_call 28; (with_reducible refine (word_Sign.calls a0 t280 _ A7.out).mono ?_); rintro e w13 ⟨rfl, hb⟩; have n0_ := Aside0.mk (below_step (by repeat (first | (with_reducible first | exact HB.out | apply below_alloc | apply pw_below_drewN | apply below_drew1) | exact HB.out)) hb); clear HB; have HB := n0_; clear n0_; (try clear hb); (try clear hb2); (try clear hk); (try clear hi)) | (go_at_call 29; (with_reducible refine (brazierref01_Sign.calls a0 t281 _ A8.out).mono ?_); rintro e w' ⟨rfl, ⟨nd, rfl⟩⟩))
        go_ret
        exact ⟨by first | rfl | (simp [errW_none, errW_some] <;> rfl) | (simp [*, errW_none, errW_some] <;> rfl), by repeat (first | (with_reducible first | exact HB.out | apply below_alloc | apply pw_below_drewN | apply below_drew1) | exact HB.out)⟩
    · rw [if_neg c6] at H
      have c6b0 : (t277 == t279) = false := by simpa using c6
      (try (have c6b1 : decide (t277 = t279) = false := by simpa using c6))
      (try (have c6b2 : (t277 == t279) = false := by simpa using c6))
      (try (have c6b3 : ¬ (t277 = t279) := by simpa using c6))
      clear c6
      obtain rfl := Option.some.inj H
      go_enter Try.func10, Try.ntmps10
      go_wp2_with (first | ((with_reducible refine gate_callee (f := 23) rfl ?_); refine goesL_ (some 12) rfl rfl Try.func23 (by kernel_rfl) rfl #[.int .i64 a0, .int .i32 a1] rfl (by (try simp only [List.map_toArray, List.map_cons, List.map_nil]); first | done | rfl | (simp only [List.length_drop, List.length_take]; rfl)) ?_; (with_reducible refine (word_Un.calls a0 a1 t276 t277 _ A3.out).mono ?_); rintro e w' ⟨rfl, ⟨nd, rfl⟩⟩; refine ⟨_, rfl, ?_⟩) | ((with_reducible refine gate_callee (f := 27) rfl ?_); refine goesL_ (some 18) rfl rfl Try.func27 (by kernel_rfl) rfl #[.int .i64 a0, .int .i32 a1] rfl (by (try simp only [List.map_toArray, List.map_cons, List.map_nil]); first | done | rfl | (simp only [List.length_drop, List.length_take]; rfl)) ?_; (with_reducible refine (brazierref01_Un.calls a0 a1 t278 t279 _ A4.out).mono ?_); rintro e w' ⟨rfl, ⟨nd, rfl⟩⟩; refine ⟨_, rfl, ?_⟩))
      go_ret
      exact ⟨by first | rfl | (simp [errW_none, errW_some] <;> rfl) | (simp [*, errW_none, errW_some] <;> rfl), by repeat (first | (with_reducible first | exact HB.out | apply below_alloc | apply pw_below_drewN | apply below_drew1) | exact HB.out)⟩
  · rw [if_neg c5] at H
    have c5b0 : (t276 == t278) = false := beq_eq_false_iff_ne.mpr c5
    have c5b1 : (t276 != t278) = true := bne_iff_ne.mpr c5
    obtain rfl := Option.some.inj H
    go_enter Try.func10, Try.ntmps10
    go_wp2_with (first | ((with_reducible refine gate_callee (f := 23) rfl ?_); refine goesL_ (some 12) rfl rfl Try.func23 (by kernel_rfl) rfl #[.int .i64 a0, .int .i32 a1] rfl (by (try simp only [List.map_toArray, List.map_cons, List.map_nil]); first | done | rfl | (simp only [List.length_drop, List.length_take]; rfl)) ?_; (with_reducible refine (word_Un.calls a0 a1 t276 t277 _ A3.out).mono ?_); rintro e w' ⟨rfl, ⟨nd, rfl⟩⟩; refine ⟨_, rfl, ?_⟩) | ((with_reducible refine gate_callee (f := 27) rfl ?_); refine goesL_ (some 18) rfl rfl Try.func27 (by kernel_rfl) rfl #[.int .i64 a0, .int .i32 a1] rfl (by (try simp only [List.map_toArray, List.map_cons, List.map_nil]); first | done | rfl | (simp only [List.length_drop, List.length_take]; rfl)) ?_; (with_reducible refine (brazierref01_Un.calls a0 a1 t278 t279 _ A4.out).mono ?_); rintro e w' ⟨rfl, ⟨nd, rfl⟩⟩; refine ⟨_, rfl, ?_⟩))
    go_ret
    exact ⟨by first | rfl | (simp [errW_none, errW_some] <;> rfl) | (simp [*, errW_none, errW_some] <;> rfl), by repeat (first | (with_reducible first | exact HB.out | apply below_alloc | apply pw_below_drewN | apply below_drew1) | exact HB.out)⟩

/-- THE ONE PURE STATEMENT of brazierlaw01_WordUns: yours. -/
def brazierlaw01_WordUns.Pure : Prop := ∀ (a0 : Int) (a1 : Int), (Lit.int .i64 a0).wf = true → (Lit.int .i32 a1).wf = true → ∃ k, brazierlaw01_WordUns.f k a0 a1 = some true
theorem brazierlaw01_WordUns.walk (P : brazierlaw01_WordUns.Pure) (a0 : Int) (a1 : Int) (w : World) (w0 : (Lit.int .i64 a0).wf = true) (w1 : (Lit.int .i32 a1).wf = true) :
    Calls Try.prog 10 #[.int .i64 a0, .int .i32 a1] w fun e w' => e = .returned (.bool true) ∧ Below w.heap.size w w' := by
  obtain ⟨k, h⟩ := P a0 a1 w0 w1
  refine (brazierlaw01_WordUns.calls k a0 a1 true w h).mono ?_
  rintro e w' ⟨rfl, hd⟩
  exact ⟨rfl, hd⟩

/-! ### word_digit: function 40 -/
def word_digit.f (a0 : Int) : Option (Int) := if a0 < 10 then (some ((48 + a0) % 256)) else (some (((97 + a0) - 10) % 256))
set_option maxHeartbeats 8000000 in
set_option maxRecDepth 100000 in
theorem word_digit.calls (a0 : Int) (r : Int) (w : World) (h : word_digit.f a0 = some r) :
    Calls Try.prog 40 #[.int .u8 a0] w fun e w' => e = .returned (.int .u8 r) ∧ Drawn0 w w' := by
  have H : (if a0 < 10 then (some ((48 + a0) % 256)) else (some (((97 + a0) - 10) % 256))) = some r := h
  clear h
  by_cases c2 : a0 < 10
  · rw [if_pos c2] at H
    have c2b0 : decide (a0 < 10) = true := decide_eq_true c2
    clear c2
    obtain rfl := Option.some.inj H
    go_enter Try.func40, Try.ntmps40
    go_wp2
    go_ret
    exact ⟨by first | rfl | (simp; done) | (simp [*]; done), by repeat (first | exact Drawn0.refl _ | apply Drawn0.step)⟩
  · rw [if_neg c2] at H
    have c2b0 : decide (a0 < 10) = false := decide_eq_false c2
    clear c2
    obtain rfl := Option.some.inj H
    go_enter Try.func40, Try.ntmps40
    go_wp2
    go_ret
    exact ⟨by first | rfl | (simp; done) | (simp [*]; done), by repeat (first | exact Drawn0.refl _ | apply Drawn0.step)⟩

/-! ### word_Hex: function 30 -/
/-- A half byte's digit. -/
def hexD (n : Int) : Int := if n < 10 then 48 + n else 87 + n
/-- The digits of bytes, two each, the higher one first. -/
def hexL : List Int → List Int
  | [] => []
  | c :: l => hexD (c / 16) :: hexD (c % 16) :: hexL l
def byteB (l : List Int) : Bool := l.all fun c => decide (0 ≤ c) && decide (c ≤ 255)
theorem hexL_append (a b : List Int) : hexL (a ++ b) = hexL a ++ hexL b := by
  induction a with
  | nil => rfl
  | cons c a ih => simp [hexL, ih]
theorem hexL_length (a : List Int) : (hexL a).length = 2 * a.length := by
  induction a with
  | nil => rfl
  | cons c a ih => simp [hexL, ih]; omega
def hexDigits : ByteArray := ⟨#[48, 49, 50, 51, 52, 53, 54, 55, 56, 57, 97, 98, 99, 100, 101, 102]⟩
theorem hexDigits_cut (n : Nat) (h : n < 16) : hexDigits.extract n (n + 1) = strOfNums [hexD n] := by
  have key : ∀ m : Fin 16, hexDigits.extract m.1 (m.1 + 1) = strOfNums [hexD m.1] := by decide +kernel
  exact key ⟨n, h⟩
theorem byteB_rd {l : List Int} (h : byteB l = true) (i : Nat) (hi : i < l.length) : 0 ≤ rd l i ∧ rd l i ≤ 255 := by
  have h2 := List.all_eq_true.1 h l[i] (List.getElem_mem hi)
  simp at h2
  unfold rd
  rw [Int.toNat_natCast, List.getD_eq_getElem?_getD, List.getElem?_eq_getElem hi]
  exact h2
theorem take_rd (l : List Int) (i : Nat) (hi : i < l.length) : l.take (i + 1) = l.take i ++ [rd l i] := by
  rw [List.take_succ_eq_append_getElem hi]
  congr 2
  unfold rd
  rw [Int.toNat_natCast, List.getD_eq_getElem?_getD, List.getElem?_eq_getElem hi]
  rfl
theorem str_app (a b : List Int) : strOfNums (a ++ b) = strOfNums a ++ strOfNums b := by
  have h : (strOfNums (a ++ b)).data.toList = (strOfNums a ++ strOfNums b).data.toList := by
    rw [ByteArray.data_append, Array.toList_append, strOfNums_data, strOfNums_data, strOfNums_data, List.map_append]
  generalize strOfNums (a ++ b) = x at *
  generalize strOfNums a ++ strOfNums b = y at *
  cases x; cases y; congr 1; exact Array.toList_inj.1 h
def word_Hex.f (l0 : List Int) : Option ByteArray := if byteB l0 = true ∧ l0.length ≤ 1000000000000 then some (strOfNums (hexL l0)) else none
theorem digit_low (m : Nat) (h : m < 16) : word_digit.f (m : Int) = some (hexD m) := by
  unfold word_digit.f hexD
  by_cases c : (m : Int) < 10
  · rw [if_pos c, if_pos c]; congr 1; omega
  · rw [if_neg c, if_neg c]; congr 1; omega
theorem hex_made (n : Nat) (h : n ≤ 1000000000000) (W : World) :
    (Instr.makeSlice 43 (.int .i64 0) (.int .i64 (2 * (n : Int)))).run Try.prog W = .ok (.slice (some ⟨W.heap.size, 0, none⟩) 0 (2 * n)) (W.alloc (.cells (madeCells #[.int .u8 0] (2 * n)) 5)) := by
  obtain ⟨i0, hi, hzz⟩ := Option.map_eq_some_iff.1 info5
  simp only [Prod.mk.injEq] at hzz
  obtain ⟨hz0, hz1, hz2⟩ := hzz
  have e := run_make (P := Try.prog) W 43 5 i0 (.int .u8 0) Try.underlying43 hi hz0 .i64 .i64 0 (2 * (n : Int)) (by decide) (by omega) (by rw [hz2]; omega) (by omega)
  rw [hz1, show (2 * (n : Int)).toNat = 2 * n from by omega] at e
  simp only [Nat.mul_one, Int.toNat_zero] at e
  exact e
theorem hex_two {P : Program} {ops : Array Oper} {rest : List Oper} {o : Oper} {a : Act} {Q : Exit → Act → World → Prop} {w0 W : World} (base : Nat) (hgd : o.guard = none) (s x : Operand) (t e : TypeId)
    (ho : o.op = .call { callee := .builtin .append, args := #[s, x], argTypes := #[t, t] })
    (ht : P.underlying t = some (.slice e)) (hinfo : (P.info? e).map (fun i => (i.zero, i.size, i.bytes)) = some (some (.int .u8 0), 1, 1))
    (v : Value) (n : Nat) (xs : List Int) (y1 y2 : Int) (hs : a.eval s = v) (hx : a.eval x = .slice (some ⟨W.heap.size, 0, none⟩) 2 2)
    (HO : W.ownsRow base e 1 v n (nums .u8 xs)) (HB : Below base w0 W) (hbase : base ≤ W.heap.size) (hl : n + 2 ≤ 140737488355328)
    (h : ∀ v1 w1, w1.ownsRow base e 1 v1 (n + 2) (nums .u8 (xs ++ [y1, y2])) → Below base w0 w1 → wpList P ops Q rest (a.put o.dst v1) w1) :
    wpList P ops Q (o :: rest) a (W.alloc (.cells #[.int .u8 y1, .int .u8 y2] e)) := by
  obtain ⟨i0, hi, hzz⟩ := Option.map_eq_some_iff.1 hinfo
  simp only [Prod.mk.injEq] at hzz
  obtain ⟨hz0, hz1, hz2⟩ := hzz
  refine wpList_append_own_at (W.alloc (.cells #[.int .u8 y1, .int .u8 y2] e)) hgd s x t ho base e i0 (.int .u8 0) 1 1 ht hi hz0 hz1 hz2 rfl (by decide) v n (nums .u8 xs) hs (HO.alloc _) ⟨W.heap.size, 0, none⟩ 2 2 [.int .u8 y1, .int .u8 y2] hx rfl
    (World.news_of_block (cs := #[.int .u8 y1, .int .u8 y2]) (t := e) (fr := (0, 0)) (heap_alloc_new W _)) (by simp [Value.oneCell']) (by simp only [maxLen]; omega) (by omega) (by simp; omega) ?_
  intro v1 w1 hown hg _ _
  exact h v1 w1 (by simpa [nums] using hown) ((HB.alloc hbase _).grown hg (by simp; omega) (own_base HO))
set_option maxHeartbeats 1000000 in
set_option maxRecDepth 100000 in
theorem word_Hex.calls (A0 : Option Addr) (c0 : Nat) (l0 : List Int) (r : ByteArray) (w : World) (hr0 : Kd.C (Kd.int .u8) w A0 l0.length l0) (hc0 : l0.length ≤ c0) (h : word_Hex.f l0 = some r) :
    Calls Try.prog 30 #[.slice A0 l0.length c0] w fun e w' => e = .returned (.string r) ∧ Below w.heap.size w w' := by
  unfold word_Hex.f at h
  by_cases hb : byteB l0 = true ∧ l0.length ≤ 1000000000000
  · rw [if_pos hb] at h
    obtain rfl := Option.some.inj h
    obtain ⟨hb, hl⟩ := hb
    have HB := Aside0.mk hb
    have HR := Aside0.mk hr0
    clear h hb hr0
    have hmk := hex_made l0.length hl
    go_enter Try.func30, Try.ntmps30
    go_wp2
    clear hmk
    go_loopw [3, 12] (fun s i wr => ∃ k : Nat, k ≤ l0.length ∧ i = .int .i64 k ∧ Aside0 (wr.ownsRow w.heap.size 5 1 s (2 * k) (nums .u8 (hexL (l0.take k)))) ∧ Aside0 (Below w.heap.size w wr)) (fun _ i _ => l0.length - (intOf i).toNat)
    case atStart => exact ⟨0, Nat.zero_le _, rfl, ⟨World.ownsRow_made w _ (2 * l0.length) (Nat.le_refl _) (by simp only [maxLen]; omega) (by rw [size_madeCells]; omega)⟩, ⟨(Below.refl _ _).alloc (Nat.le_refl _) _⟩⟩
    case round =>
      obtain ⟨k, hk, rfl, hown, hbel⟩ := hrel
      by_cases hlt : k < l0.length
      · obtain ⟨ad, rfl, hx⟩ := Kd.at_int HR.out (k : Int) (by omega) (by omega)
        obtain ⟨hc1, hc2⟩ := byteB_rd HB.out k hlt
        obtain ⟨c, hc⟩ : ∃ c, rd l0 (k : Int) = c := ⟨_, rfl⟩
        rw [hc] at hx hc1 hc2
        have HC := Aside0.mk hc
        clear hc
        simp only [Int.toNat_natCast] at hx
        replace hx := pw_cell_below hbel.out hx
        obtain ⟨m1, e1, l1⟩ : ∃ m : Nat, c / 16 = (m : Int) ∧ m < 16 := ⟨(c / 16).toNat, by omega, by omega⟩
        obtain ⟨m2, e2, l2⟩ : ∃ m : Nat, c % 16 = (m : Int) ∧ m < 16 := ⟨(c % 16).toNat, by omega, by omega⟩
        have D1 := Aside0.mk (digit_low m1 l1)
        have D2 := Aside0.mk (digit_low m2 l2)
        rw [← e1] at D1
        rw [← e2] at D2
        have E1 := Aside0.mk e1
        have E2 := Aside0.mk e2
        clear e1 e2 l1 l2
        go_wp2_with fail
        refine (word_digit.calls _ _ _ D1.out).mono ?_
        rintro e w' ⟨rfl, ⟨n1, rfl⟩⟩
        go_wp2_with fail
        refine (word_digit.calls _ _ _ D2.out).mono ?_
        rintro e w' ⟨rfl, ⟨n2, rfl⟩⟩
        rw [World.drewN_drewN] at *
        go_wp2_with (at_builtin; refine hex_two (w0 := w) w.heap.size rfl (.tmp 16) (.tmp 23) 43 5 rfl Try.underlying43 info5 u3 (2 * k) (hexL (l0.take k)) (hexD (c / 16)) (hexD (c % 16)) rfl rfl ?ho ?hb ?hs ?hl ?_)
        case ho => exact pw_own_drewN hown.out _
        case hb => exact pw_below_drewN hbel.out _
        case hs => exact hbel.out.size
        case hl => omega
        intro v1 w1 ho hb
        have HO := Aside0.mk ho
        have HBB := Aside0.mk hb
        clear ho hb
        go_wp2
        go_roundw
        case rel =>
          refine ⟨k + 1, by omega, by go_num, ⟨?_⟩, ⟨HBB.out⟩⟩
          rw [take_rd l0 k hlt, hexL_append, HC.out]
          exact HO.out
        case measure => simp [intOf]; omega
      · have t1 : decide (k < l0.length) = false := by simpa using hlt
        have t2 : decide ((k : Int) < (l0.length : Int)) = false := decide_eq_false (by omega)
        have ho := hown.out
        rw [List.take_of_length_le (by omega)] at ho
        have hcv := own_string (P := Try.prog) Try.underlying43 Try.underlying5 Try.underlying9 ho
        clear ho
        go_wp2
        go_ret
        exact ⟨rfl, hbel.out⟩
  · rw [if_neg hb] at h; cases h

end Go.Proofs.Ytfpaigfknohhfaa.X
