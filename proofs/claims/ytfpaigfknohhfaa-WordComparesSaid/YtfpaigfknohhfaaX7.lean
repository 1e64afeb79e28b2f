/- The walks: for each Go function a Lean function with the same answers, and the proof that the Go code comes to them; no condition beyond what each contract states. Written by this session's own program xprint.py (over the kit's print program); not one of print.sh's texts. -/
import Derived.Test.YtfpaigfknohhfaaX0
import Derived.Test.YtfpaigfknohhfaaX1
import Derived.Test.YtfpaigfknohhfaaX3
namespace Go.Proofs.Ytfpaigfknohhfaa.X
open Go.RowKit Go.Proofs.YtfpaigfknohhfaaW.PrintWords Go.Proofs.YtfpaigfknohhfaaW.PrintLast Go.Proofs.YtfpaigfknohhfaaW.PrintMore
attribute [local go_sem] max2_int min2_int max_two min_two max_three min_three max_four min_four   -- for this text's walks alone
set_option linter.unusedVariables false
set_option linter.unusedSimpArgs false

/-! ### word_Fits: function 22 -/
def word_Fits.f (a0 : Int) (a1 : Int) : Option (Bool) := if a1 < 1 then (some false) else (if a1 > 32 then (some false) else (if 0 ≤ (wrap64 (a1 - 1)) then (if (wrap64 (a0)) ≥ (wrap64 (-(shl .i64 1 (wrap64 (a1 - 1))))) then (some (decide ((wrap64 (a0)) < (shl .i64 1 (wrap64 (a1 - 1)))))) else (some false)) else (none)))
set_option maxHeartbeats 8000000 in
set_option maxRecDepth 100000 in
theorem word_Fits.calls (a0 : Int) (a1 : Int) (r : Bool) (w : World) (h : word_Fits.f a0 a1 = some r) :
    Calls Try.prog 22 #[.int .i32 a0, .int .i64 a1] w fun e w' => e = .returned (.bool r) ∧ Drawn0 w w' := by
  have H : (if a1 < 1 then (some false) else (if a1 > 32 then (some false) else (if 0 ≤ (wrap64 (a1 - 1)) then (if (wrap64 (a0)) ≥ (wrap64 (-(shl .i64 1 (wrap64 (a1 - 1))))) then (some (decide ((wrap64 (a0)) < (shl .i64 1 (wrap64 (a1 - 1)))))) else (some false)) else (none)))) = some r := h
  clear h
  by_cases c3 : a1 < 1
  · rw [if_pos c3] at H
    have c3b0 : decide (a1 < 1) = true := decide_eq_true c3
    clear c3
    obtain rfl := Option.some.inj H
    go_enter Try.func22, Try.ntmps22
    go_wp2
    go_ret
    exact ⟨by first | rfl | (simp; done) | (simp [*]; done), by repeat (first | exact Drawn0.refl _ | apply Drawn0.step)⟩
  · rw [if_neg c3] at H
    have c3b0 : decide (a1 < 1) = false := decide_eq_false c3
    clear c3
    by_cases c4 : a1 > 32
    · rw [if_pos c4] at H
      have c4b0 : decide (32 < a1) = true := decide_eq_true c4
      clear c4
      obtain rfl := Option.some.inj H
      go_enter Try.func22, Try.ntmps22
      go_wp2
      go_ret
      exact ⟨by first | rfl | (simp; done) | (simp [*]; done), by repeat (first | exact Drawn0.refl _ | apply Drawn0.step)⟩
    · rw [if_neg c4] at H
      have c4b0 : decide (32 < a1) = false := decide_eq_false c4
      clear c4
      obtain ⟨ji5, hji5⟩ : ∃ j_ : Int, (wrap64 (a1 - 1)) = j_ := ⟨_, rfl⟩
      replace H : (if 0 ≤ (ji5) then (if (wrap64 (a0)) ≥ (wrap64 (-(shl .i64 1 (ji5)))) then (some (decide ((wrap64 (a0)) < (shl .i64 1 (ji5))))) else (some false)) else (none)) = some r := by first | (rw [hji5] at H; exact H) | (simp only [hji5] at H ⊢; exact H)
      have hji5w : (IntKind.i64.wrap (a1 - 1)) = ji5 := (i64_w _).trans hji5
      by_cases c6 : 0 ≤ (ji5)
      · rw [if_pos c6] at H
        have c6b0 := eq_true c6
        have c6b1 : decide (0 ≤ (ji5)) = true := decide_eq_true c6
        clear c6
        obtain ⟨ji7, hji7⟩ : ∃ j_ : Int, (shl .i64 1 (ji5)) = j_ := ⟨_, rfl⟩
        replace H : (if (wrap64 (a0)) ≥ (wrap64 (-(ji7))) then (some (decide ((wrap64 (a0)) < (ji7)))) else (some false)) = some r := by first | (rw [hji7] at H; exact H) | (simp only [hji7] at H ⊢; exact H)
        have hji7_ : (IntKind.i64.wrap (1 * 2 ^ min (ji5).toNat 64)) = ji7 := hji7
        have hji7z : (ji5) ≤ 64 → (IntKind.i64.wrap (1 * 2 ^ (ji5).toNat)) = ji7 := shl_small hji7
        have hji7u : (IntKind.i64.wrap (2 ^ min (ji5).toNat 64)) = ji7 := by have h_ := hji7_; rw [Int.one_mul] at h_; exact h_
        have hji7v : (ji5) ≤ 64 → (IntKind.i64.wrap (2 ^ (ji5).toNat)) = ji7 := fun hle_ => by have h_ := hji7z hle_; rw [Int.one_mul] at h_; exact h_
        have hji7y : (wrap64 (1 * 2 ^ min (ji5).toNat 64)) = ji7 := (i64_w _).symm.trans hji7_
        have hji7x : (ji5) ≤ 64 → (wrap64 (1 * 2 ^ (ji5).toNat)) = ji7 := fun h_ => (i64_w _).symm.trans (hji7z h_)
        by_cases c8 : (wrap64 (a0)) ≥ (wrap64 (-(ji7)))
        · rw [if_pos c8] at H
          have c8b0 : decide ((wrap64 (-(ji7))) ≤ (wrap64 (a0))) = true := decide_eq_true c8
          clear c8
          obtain rfl := Option.some.inj H
          go_enter Try.func22, Try.ntmps22
          go_wp2
          go_ret
          exact ⟨by first | rfl | (simp; done) | (simp only [← hji5, ← hji7] <;> (first | rfl | simp)) | (simp [*]; done), by repeat (first | exact Drawn0.refl _ | apply Drawn0.step)⟩
        · rw [if_neg c8] at H
          have c8b0 : decide ((wrap64 (-(ji7))) ≤ (wrap64 (a0))) = false := decide_eq_false c8
          clear c8
          obtain rfl := Option.some.inj H
          go_enter Try.func22, Try.ntmps22
          go_wp2
          go_ret
          exact ⟨by first | rfl | (simp; done) | (simp only [← hji5, ← hji7] <;> (first | rfl | simp)) | (simp [*]; done), by repeat (first | exact Drawn0.refl _ | apply Drawn0.step)⟩
      · rw [if_neg c6] at H
        exact absurd H (by simp)

/-! ### brazierlaw01_WordSplits: function 7 -/
mutual
def brazierlaw01_WordSplits.j0 : Nat → Int → Int → Bool → Option (Bool)
  | 0, _, _, _ => none
  | k + 1, x0, x1, x38 => if x38 = true then (some false) else (if x1 ≥ 1 then (brazierlaw01_WordSplits.j1 k x0 x1 false (decide (x1 ≤ 32))) else (brazierlaw01_WordSplits.j1 k x0 x1 false false))
def brazierlaw01_WordSplits.j1 : Nat → Int → Int → Bool → Bool → Option (Bool)
  | 0, _, _, _, _ => none
  | k + 1, x0, x1, x7, x44 => if x44 = true then (brazierlaw01_WordSplits.l0 k x0 x1 1 (wrap64 (x1 - 1)) 0) else ((word_Fits.f x0 x1).bind fun t236 => (if (t236 == x7) = true then ((brazierlaw01_lives.f k).bind fun t237 => (some t237)) else (some false)))
def brazierlaw01_WordSplits.l0 : Nat → Int → Int → Int → Int → Int → Option (Bool)
  | 0, _, _, _, _, _ => none
  | k + 1, x0, x1, x8, x46, x47 => if x47 < x46 then (brazierlaw01_WordSplits.l0 k x0 x1 (wrap64 (x8 * 2)) x46 (wrap64 (x47 + 1))) else (if (wrap64 (x0)) ≥ (wrap64 (-x8)) then ((word_Fits.f x0 x1).bind fun t232 => (if (t232 == (decide ((wrap64 (x0)) ≤ (wrap64 (x8 - 1))))) = true then ((brazierlaw01_lives.f k).bind fun t233 => (some t233)) else (some false))) else ((word_Fits.f x0 x1).bind fun t234 => (if (t234 == false) = true then ((brazierlaw01_lives.f k).bind fun t235 => (some t235)) else (some false))))
end
def brazierlaw01_WordSplits.f (k : Nat) (a0 : Int) (a1 : Int) : Option (Bool) := (word_Split.f a0).bind fun bt229 => (if bt229.1 < 0 then (brazierlaw01_WordSplits.j0 k a0 a1 true) else (if bt229.1 ≥ 1048576 then (brazierlaw01_WordSplits.j0 k a0 a1 true) else (if bt229.2 < (-2048) then (brazierlaw01_WordSplits.j0 k a0 a1 true) else (if bt229.2 > 2047 then (brazierlaw01_WordSplits.j0 k a0 a1 true) else ((brazierref01_Round.f (wrap64 ((wrap64 ((wrap64 (bt229.1)) * 4096)) + (wrap64 (bt229.2))))).bind fun t231 => (brazierlaw01_WordSplits.j0 k a0 a1 (t231 != a0)))))))
theorem brazierlaw01_WordSplits.mono_l : ∀ k, (∀ y0 y1 y2, LeO (brazierlaw01_WordSplits.j0 k y0 y1 y2) (brazierlaw01_WordSplits.j0 (k + 1) y0 y1 y2)) ∧ (∀ y0 y1 y2 y3, LeO (brazierlaw01_WordSplits.j1 k y0 y1 y2 y3) (brazierlaw01_WordSplits.j1 (k + 1) y0 y1 y2 y3)) ∧ (∀ y0 y1 y2 y3 y4, LeO (brazierlaw01_WordSplits.l0 k y0 y1 y2 y3 y4) (brazierlaw01_WordSplits.l0 (k + 1) y0 y1 y2 y3 y4))
  | 0 => ⟨fun _ _ _ r h => by simp [brazierlaw01_WordSplits.j0] at h, fun _ _ _ _ r h => by simp [brazierlaw01_WordSplits.j1] at h, fun _ _ _ _ _ r h => by simp [brazierlaw01_WordSplits.l0] at h⟩
  | k + 1 => by
    obtain ⟨ih0, ih1, ih2⟩ := brazierlaw01_WordSplits.mono_l k
    refine ⟨?_, ?_, ?_⟩
    · intro y0 y1 y2
      unfold brazierlaw01_WordSplits.j0
      repeat' first
      | (with_reducible exact ih0 _ _ _)
      | (with_reducible exact ih1 _ _ _ _)
      | (with_reducible exact ih2 _ _ _ _ _)
      | (with_reducible exact brazierlaw01_lives.mono _)
      | (with_reducible exact LeO.refl _)
      | (with_reducible exact LeO.none _)
      | (with_reducible refine LeO.ite ?_ ?_)
      | (with_reducible refine LeO.bind ?_ (fun _ => ?_))
      | exact ih0 _ _ _
      | exact ih1 _ _ _ _
      | exact ih2 _ _ _ _ _
      | exact brazierlaw01_lives.mono _
      | exact LeO.none _
      | refine LeO.ite ?_ ?_
      | refine LeO.bind ?_ (fun _ => ?_)
    · intro y0 y1 y2 y3
      unfold brazierlaw01_WordSplits.j1
      repeat' first
      | (with_reducible exact ih0 _ _ _)
      | (with_reducible exact ih1 _ _ _ _)
      | (with_reducible exact ih2 _ _ _ _ _)
      | (with_reducible exact brazierlaw01_lives.mono _)
      | (with_reducible exact LeO.refl _)
      | (with_reducible exact LeO.none _)
      | (with_reducible refine LeO.ite ?_ ?_)
      | (with_reducible refine LeO.bind ?_ (fun _ => ?_))
      | exact ih0 _ _ _
      | exact ih1 _ _ _ _
      | exact ih2 _ _ _ _ _
      | exact brazierlaw01_lives.mono _
      | exact LeO.none _
      | refine LeO.ite ?_ ?_
      | refine LeO.bind ?_ (fun _ => ?_)
    · intro y0 y1 y2 y3 y4
      unfold brazierlaw01_WordSplits.l0
      repeat' first
      | (with_reducible exact ih0 _ _ _)
      | (with_reducible exact ih1 _ _ _ _)
      | (with_reducible exact ih2 _ _ _ _ _)
      | (with_reducible exact brazierlaw01_lives.mono _)
      | (with_reducible exact LeO.refl _)
      | (with_reducible exact LeO.none _)
      | (with_reducible refine LeO.ite ?_ ?_)
      | (with_reducible refine LeO.bind ?_ (fun _ => ?_))
      | exact ih0 _ _ _
      | exact ih1 _ _ _ _
      | exact ih2 _ _ _ _ _
      | exact brazierlaw01_lives.mono _
      | exact LeO.none _
      | refine LeO.ite ?_ ?_
      | refine LeO.bind ?_ (fun _ => ?_)
theorem brazierlaw01_WordSplits.mono : ∀ a0 a1 k, LeO (brazierlaw01_WordSplits.f k a0 a1) (brazierlaw01_WordSplits.f (k + 1) a0 a1) := by
  intro a0 a1 k
  obtain ⟨ih0, ih1, ih2⟩ := brazierlaw01_WordSplits.mono_l k
  unfold brazierlaw01_WordSplits.f
  repeat' first
      | (with_reducible exact ih0 _ _ _)
      | (with_reducible exact ih1 _ _ _ _)
      | (with_reducible exact ih2 _ _ _ _ _)
      | (with_reducible exact brazierlaw01_lives.mono _)
      | (with_reducible exact LeO.refl _)
      | (with_reducible exact LeO.none _)
      | (with_reducible refine LeO.ite ?_ ?_)
      | (with_reducible refine LeO.bind ?_ (fun _ => ?_))
      | exact ih0 _ _ _
      | exact ih1 _ _ _ _
      | exact ih2 _ _ _ _ _
      | exact brazierlaw01_lives.mono _
      | exact LeO.none _
      | refine LeO.ite ?_ ?_
      | refine LeO.bind ?_ (fun _ => ?_)
set_option maxHeartbeats 8000000 in
set_option maxRecDepth 100000 in
theorem brazierlaw01_WordSplits.calls (k : Nat) (a0 : Int) (a1 : Int) (r : Bool) (w : World) (h : brazierlaw01_WordSplits.f k a0 a1 = some r) :
    Calls Try.prog 7 #[.int .i32 a0, .int .i64 a1] w fun e w' => e = .returned (.bool r) ∧ Below w.heap.size w w' := by
  have HB := Aside0.mk (Below.refl w.heap.size w)
  have H : ((word_Split.f a0).bind fun bt229 => (if bt229.1 < 0 then (brazierlaw01_WordSplits.j0 k a0 a1 true) else (if bt229.1 ≥ 1048576 then (brazierlaw01_WordSplits.j0 k a0 a1 true) else (if bt229.2 < (-2048) then (brazierlaw01_WordSplits.j0 k a0 a1 true) else (if bt229.2 > 2047 then (brazierlaw01_WordSplits.j0 k a0 a1 true) else ((brazierref01_Round.f (wrap64 ((wrap64 ((wrap64 (bt229.1)) * 4096)) + (wrap64 (bt229.2))))).bind fun t231 => (brazierlaw01_WordSplits.j0 k a0 a1 (t231 != a0)))))))) = some r := h
  clear h
  replace H := Option.bind_eq_some_iff.mp H
  obtain ⟨⟨t229, t230⟩, A30, H⟩ := H
  replace H : (if t229 < 0 then (brazierlaw01_WordSplits.j0 k a0 a1 true) else (if t229 ≥ 1048576 then (brazierlaw01_WordSplits.j0 k a0 a1 true) else (if t230 < (-2048) then (brazierlaw01_WordSplits.j0 k a0 a1 true) else (if t230 > 2047 then (brazierlaw01_WordSplits.j0 k a0 a1 true) else ((brazierref01_Round.f (wrap64 ((wrap64 ((wrap64 (t229)) * 4096)) + (wrap64 (t230))))).bind fun t231 => (brazierlaw01_WordSplits.j0 k a0 a1 (t231 != a0))))))) = some r := H
  have A3 := Aside0.mk A30
  clear A30
  have HC4 := Aside0.mk H
  clear H
  go_enter Try.func7, Try.ntmps7
  go_upto_region 2 with (first | ((with_reducible refine gate_callee (f := 20) rfl ?_); refine goesL_ (some 11) rfl rfl Try.func20 (by kernel_rfl) rfl #[.int .i32 a0] rfl (by (try simp only [List.map_toArray, List.map_cons, List.map_nil]); first | done | rfl | (simp only [List.length_drop, List.length_take]; rfl)) ?_; (with_reducible refine (word_Split.calls a0 t229 t230 _ A3.out).mono ?_); rintro e w' ⟨rfl, ⟨nd, rfl⟩⟩; refine ⟨_, rfl, ?_⟩))
  (try simp only [Act.put, List.setIfInBounds_toArray, List.set_cons_zero, List.set_cons_succ])
  go_cut [38] (fun v38 wc => ∃ (kq : Nat) (x38_3 : Bool), v38 = .bool x38_3 ∧ Aside0 (brazierlaw01_WordSplits.j0 kq a0 a1 x38_3 = some r) ∧ Aside0 (kq ≤ k) ∧ Aside0 (Below w.heap.size w wc))
  case first =>
    have H := HC4.out
    clear HC4
    by_cases c5 : t229 < 0
    · rw [if_pos c5] at H
      have c5b0 : decide (t229 < 0) = true := decide_eq_true c5
      clear c5
      (first | rw [c5b0] | (simp only [i64_w, i32_w]; rw [c5b0]) | skip)
      have H' := Aside0.mk H
      clear H
      go_wp2
      go_meet
      case rel => exact ⟨_, (true), (by first | rfl | (simp; done) | (simp [*]; done)), H', ⟨by first | omega | exact Nat.le_refl _⟩, ⟨by repeat (first | (with_reducible first | exact HB.out | apply below_alloc | apply pw_below_drewN | apply below_drew1) | exact HB.out)⟩⟩
    · rw [if_neg c5] at H
      have c5b0 : decide (t229 < 0) = false := decide_eq_false c5
      clear c5
      (first | rw [c5b0] | (simp only [i64_w, i32_w]; rw [c5b0]) | skip)
      by_cases c6 : t229 ≥ 1048576
      · rw [if_pos c6] at H
        have c6b0 : decide (1048576 ≤ t229) = true := decide_eq_true c6
        clear c6
        have H' := Aside0.mk H
        clear H
        go_wp2
        go_meet
        case rel => exact ⟨_, (true), (by first | rfl | (simp; done) | (simp [*]; done)), H', ⟨by first | omega | exact Nat.le_refl _⟩, ⟨by repeat (first | (with_reducible first | exact HB.out | apply below_alloc | apply pw_below_drewN | apply below_drew1) | exact HB.out)⟩⟩
      · rw [if_neg c6] at H
        have c6b0 : decide (1048576 ≤ t229) = false := decide_eq_false c6
        clear c6
        by_cases c7 : t230 < (-2048)
        · rw [if_pos c7] at H
          have c7b0 : decide (t230 < (-2048)) = true := decide_eq_true c7
          clear c7
          have H' := Aside0.mk H
          clear H
          go_wp2
          go_meet
          case rel => exact ⟨_, (true), (by first | rfl | (simp; done) | (simp [*]; done)), H', ⟨by first | omega | exact Nat.le_refl _⟩, ⟨by repeat (first | (with_reducible first | exact HB.out | apply below_alloc | apply pw_below_drewN | apply below_drew1) | exact HB.out)⟩⟩
        · rw [if_neg c7] at H
          have c7b0 : decide (t230 < (-2048)) = false := decide_eq_false c7
          clear c7
          by_cases c8 : t230 > 2047
          · rw [if_pos c8] at H
            have c8b0 : decide (2047 < t230) = true := decide_eq_true c8
            clear c8
            have H' := Aside0.mk H
            clear H
            go_wp2
            go_meet
            case rel => exact ⟨_, (true), (by first | rfl | (simp; done) | (simp [*]; done)), H', ⟨by first | omega | exact Nat.le_refl _⟩, ⟨by repeat (first | (with_reducible first | exact HB.out | apply below_alloc | apply pw_below_drewN | apply below_drew1) | exact HB.out)⟩⟩
          · rw [if_neg c8] at H
            have c8b0 : decide (2047 < t230) = false := decide_eq_false c8
            clear c8
            replace H := Option.bind_eq_some_iff.mp H
            obtain ⟨t231, A90, H⟩ := H
            replace H : (brazierlaw01_WordSplits.j0 k a0 a1 (t231 != a0)) = some r := H
            have A9 := Aside0.mk A90
            clear A90
            have H' := Aside0.mk H
            clear H
            go_wp2_with (first | (go_at_call 21; (with_reducible refine (brazierref01_Round.calls (wrap64 ((wrap64 ((wrap64 (t229)) * 4096)) + (wrap64 (t230)))) t231 _ A9.out).mono ?_); rintro e w' ⟨rfl, ⟨nd, rfl⟩⟩))
            go_meet
            case rel => exact ⟨_, ((t231 != a0)), (by first | rfl | (simp; done) | (simp [*]; done)), H', ⟨by first | omega | exact Nat.le_refl _⟩, ⟨by repeat (first | (with_reducible first | exact HB.out | apply below_alloc | apply pw_below_drewN | apply below_drew1) | exact HB.out)⟩⟩
  case rest =>
    clear HC4
    try clear c2
    try clear p2
    try clear c5
    try clear c5b0
    try clear c6
    try clear c6b0
    try clear p6
    try clear c7
    try clear c7b0
    try clear c8
    try clear c8b0
    obtain ⟨kq, x38_3, rfl, HA, HJ3, HB⟩ := hcut
    cases kq with
    | zero => exact absurd HA.out (by simp [brazierlaw01_WordSplits.j0])
    | succ kj3 =>
      have H := HA.out
      clear HA
      simp only [brazierlaw01_WordSplits.j0] at H
      by_cases c10 : x38_3 = true
      · subst c10
        have H1 : (some false) = some r := by rw [if_pos rfl] at H; exact H
        clear H
        have H := H1
        clear H1
        obtain rfl := Option.some.inj H
        go_wp2
        go_ret
        exact ⟨by first | rfl | (simp [errW_none, errW_some] <;> rfl) | (simp [*, errW_none, errW_some] <;> rfl), by repeat (first | (with_reducible first | exact HB.out | apply below_alloc | apply pw_below_drewN | apply below_drew1) | exact HB.out)⟩
      · replace c10 := Bool.eq_false_iff.mpr c10
        subst c10
        have H1 : (if a1 ≥ 1 then (brazierlaw01_WordSplits.j1 kj3 a0 a1 false (decide (a1 ≤ 32))) else (brazierlaw01_WordSplits.j1 kj3 a0 a1 false false)) = some r := by rw [if_neg (show ¬ (false = true) by decide)] at H; exact H
        clear H
        have H := H1
        clear H1
        have HC11 := Aside0.mk H
        clear H
        go_upto_region 5 with (fail)
        go_cut [44] (fun v44 wc => ∃ (kq : Nat) (x44_10 : Bool), v44 = .bool x44_10 ∧ Aside0 (brazierlaw01_WordSplits.j1 kq a0 a1 false x44_10 = some r) ∧ Aside0 (kq ≤ kj3) ∧ Aside0 (Below w.heap.size w wc))
        case first =>
          have H := HC11.out
          clear HC11
          by_cases c12 : a1 ≥ 1
          · rw [if_pos c12] at H
            have c12b0 : decide (1 ≤ a1) = true := decide_eq_true c12
            clear c12
            (first | rw [c12b0] | (simp only [i64_w, i32_w]; rw [c12b0]) | skip)
            have H' := Aside0.mk H
            clear H
            go_wp2
            go_meet
            case rel => exact ⟨_, (decide (a1 ≤ 32)), (by first | rfl | (simp; done) | (simp [*]; done)), H', ⟨by have := HJ3.out; first | omega | exact Nat.le_refl _⟩, ⟨by repeat (first | (with_reducible first | exact HB.out | apply below_alloc | apply pw_below_drewN | apply below_drew1) | exact HB.out)⟩⟩
          · rw [if_neg c12] at H
            have c12b0 : decide (1 ≤ a1) = false := decide_eq_false c12
            clear c12
            (first | rw [c12b0] | (simp only [i64_w, i32_w]; rw [c12b0]) | skip)
            have H' := Aside0.mk H
            clear H
            go_wp2
            go_meet
            case rel => exact ⟨_, (false), (by first | rfl | (simp; done) | (simp [*]; done)), H', ⟨by have := HJ3.out; first | omega | exact Nat.le_refl _⟩, ⟨by repeat (first | (with_reducible first | exact HB.out | apply below_alloc | apply pw_below_drewN | apply below_drew1) | exact HB.out)⟩⟩
        case rest =>
          clear HC11
          try clear c1
          try clear c2
          try clear p2
          try clear c5
          try clear c5b0
          try clear c6
          try clear c6b0
          try clear p6
          try clear c7
          try clear c7b0
          try clear c8
          try clear c8b0
          try clear c10
          try clear c12
          try clear c12b0
          try clear p2
          try clear p6
          obtain ⟨kq, x44_10, rfl, HA, HJ10, HB⟩ := hcut
          cases kq with
          | zero => exact absurd HA.out (by simp [brazierlaw01_WordSplits.j1])
          | succ kj10 =>
            have H := HA.out
            clear HA
            simp only [brazierlaw01_WordSplits.j1] at H
            by_cases c13 : x44_10 = true
            · subst c13
              have H1 : (brazierlaw01_WordSplits.l0 kj10 a0 a1 1 (wrap64 (a1 - 1)) 0) = some r := by rw [if_pos rfl] at H; exact H
              clear H
              have H := H1
              clear H1
              have H' := Aside0.mk H
              clear H
              go_wp2
              go_loopg [8, 47] kj10 (fun kq v8 v47 w' => ∃ (x8_3 : Int) (x47_3 : Int), v8 = .int .i64 x8_3 ∧ v47 = .int .i64 x47_3 ∧ Aside0 (brazierlaw01_WordSplits.l0 kq a0 a1 x8_3 (wrap64 (a1 - 1)) x47_3 = some r) ∧ Aside0 (kq ≤ kj10) ∧ Aside0 (Below w.heap.size w w'))
              case atStart => exact ⟨(1), (0), (by first | rfl | (simp; done) | (simp [*]; done)), (by first | rfl | (simp; done) | (simp [*]; done)), H', ⟨Nat.le_refl _⟩, ⟨by repeat (first | (with_reducible first | exact HB.out | apply below_alloc | apply pw_below_drewN | apply below_drew1) | exact HB.out)⟩⟩
              case round =>
                clear H'
                try clear c1
                try clear c2
                try clear p2
                try clear c5
                try clear c5b0
                try clear c6
                try clear c6b0
                try clear p6
                try clear c7
                try clear c7b0
                try clear c8
                try clear c8b0
                try clear c10
                try clear c12
                try clear c12b0
                try clear c13
                try clear p2
                try clear p6
                obtain ⟨x8_3, x47_3, rfl, rfl, HA, HK3, HB⟩ := hrel
                cases gk with
                | zero => exact absurd HA.out (by simp [brazierlaw01_WordSplits.l0])
                | succ k3 =>
                  have H := HA.out
                  clear HA
                  simp only [brazierlaw01_WordSplits.l0] at H
                  by_cases c14 : x47_3 < (wrap64 (a1 - 1))
                  · rw [if_pos c14] at H
                    have c14b0 : decide (x47_3 < (wrap64 (a1 - 1))) = true := decide_eq_true c14
                    clear c14
                    have H' := Aside0.mk H
                    clear H
                    go_wp2
                    go_roundg k3
                    case measure => have := HJ3.out; have := HJ10.out; have := HK3.out; omega
                    case rel => exact ⟨(wrap64 (x8_3 * 2)), (wrap64 (x47_3 + 1)), (by first | rfl | (simp; done) | (simp [*]; done)), (by first | rfl | (simp; done) | (simp [*]; done)), H', ⟨by have := HJ3.out; have := HJ10.out; have := HK3.out; omega⟩, ⟨by repeat (first | (with_reducible first | exact HB.out | apply below_alloc | apply pw_below_drewN | apply below_drew1) | exact HB.out)⟩⟩
                  · rw [if_neg c14] at H
                    have c14b0 : decide (x47_3 < (wrap64 (a1 - 1))) = false := decide_eq_false c14
                    clear c14
                    by_cases c15 : (wrap64 (a0)) ≥ (wrap64 (-x8_3))
                    · rw [if_pos c15] at H
                      have c15b0 : decide ((wrap64 (-x8_3)) ≤ (wrap64 (a0))) = true := decide_eq_true c15
                      clear c15
                      replace H := Option.bind_eq_some_iff.mp H
                      obtain ⟨t232, A160, H⟩ := H
                      replace H : (if (t232 == (decide ((wrap64 (a0)) ≤ (wrap64 (x8_3 - 1))))) = true then ((brazierlaw01_lives.f k3).bind fun t233 => (some t233)) else (some false)) = some r := H
                      have A16 := Aside0.mk A160
                      clear A160
                      by_cases c17 : (t232 == (decide ((wrap64 (a0)) ≤ (wrap64 (x8_3 - 1))))) = true
                      · rw [if_pos c17] at H
                        have c17b0 : (t232 == (decide ((wrap64 (a0)) ≤ (wrap64 (x8_3 - 1))))) = true := c17
                        (try (have c17b1 : decide (t232 = (decide ((wrap64 (a0)) ≤ (wrap64 (x8_3 - 1))))) = true := by simpa using c17))
                        (try (have c17b2 : (t232 == (decide ((wrap64 (a0)) ≤ (wrap64 (x8_3 - 1))))) = true := by simpa using c17))
                        clear c17
                        replace H := Option.bind_eq_some_iff.mp H
                        obtain ⟨t233, A180, H⟩ := H
                        replace H : (some t233) = some r := H
                        have A18 := Aside0.mk A180
                        clear A180
                        obtain rfl := Option.some.inj H
                        go_wp2_with (first | ((with_reducible refine gate_callee (f := 22) rfl ?_); refine goesL_ (some 66) rfl rfl Try.func22 (by kernel_rfl) rfl #[.int .i32 a0, .int .i64 a1] rfl (by (try simp only [List.map_toArray, List.map_cons, List.map_nil]); first | done | rfl | (simp only [List.length_drop, List.length_take]; rfl)) ?_; (with_reducible refine (word_Fits.calls a0 a1 t232 _ A16.out).mono ?_); rintro e w' ⟨rfl, ⟨nd, rfl⟩⟩; refine ⟨_, rfl, ?_⟩) | (go_at_call 14; (with_reducible refine (brazierlaw01_lives.calls k3  t233 _ A18.out).mono ?_); rintro e w19 ⟨rfl, hb⟩; have n0_ := Aside0.mk (below_step (by repeat (first | (with_reducible first | exact HB.out | apply below_alloc | apply pw_below_drewN | apply below_drew1) | exact HB.out)) hb); clear HB; have HB := n0_; clear n0_; (try clear hb); (try clear hb2); (try clear hk); (try clear hi)))
                        go_ret
                        exact ⟨by first | rfl | (simp [errW_none, errW_some] <;> rfl) | (simp [*, errW_none, errW_some] <;> rfl), by repeat (first | (with_reducible first | exact HB.out | apply below_alloc | apply pw_below_drewN | apply below_drew1) | exact HB.out)⟩
                      · rw [if_neg c17] at H
                        have c17b0 : (t232 == (decide ((wrap64 (a0)) ≤ (wrap64 (x8_3 - 1))))) = false := by simpa using c17
                        (try (have c17b1 : decide (t232 = (decide ((wrap64 (a0)) ≤ (wrap64 (x8_3 - 1))))) = false := by simpa using c17))
                        (try (have c17b2 : (t232 == (decide ((wrap64 (a0)) ≤ (wrap64 (x8_3 - 1))))) = false := by simpa using c17))
                        (try (have c17b3 : ¬ (t232 = (decide ((wrap64 (a0)) ≤ (wrap64 (x8_3 - 1))))) := by simpa using c17))
                        clear c17
                        obtain rfl := Option.some.inj H
                        go_wp2_with (first | ((with_reducible refine gate_callee (f := 22) rfl ?_); refine goesL_ (some 66) rfl rfl Try.func22 (by kernel_rfl) rfl #[.int .i32 a0, .int .i64 a1] rfl (by (try simp only [List.map_toArray, List.map_cons, List.map_nil]); first | done | rfl | (simp only [List.length_drop, List.length_take]; rfl)) ?_; (with_reducible refine (word_Fits.calls a0 a1 t232 _ A16.out).mono ?_); rintro e w' ⟨rfl, ⟨nd, rfl⟩⟩; refine ⟨_, rfl, ?_⟩))
                        go_ret
                        exact ⟨by first | rfl | (simp [errW_none, errW_some] <;> rfl) | (simp [*, errW_none, errW_some] <;> rfl), by repeat (first | (with_reducible first | exact HB.out | apply below_alloc | apply pw_below_drewN | apply below_drew1) | exact HB.out)⟩
                    · rw [if_neg c15] at H
                      have c15b0 : decide ((wrap64 (-x8_3)) ≤ (wrap64 (a0))) = false := decide_eq_false c15
                      clear c15
                      replace H := Option.bind_eq_some_iff.mp H
                      obtain ⟨t234, A200, H⟩ := H
                      replace H : (if (t234 == false) = true then ((brazierlaw01_lives.f k3).bind fun t235 => (some t235)) else (some false)) = some r := H
                      have A20 := Aside0.mk A200
                      clear A200
                      by_cases c21 : (t234 == false) = true
                      · rw [if_pos c21] at H
                        have c21b0 : (t234 == false) = true := c21
                        (try (have c21b1 : decide (t234 = false) = true := by simpa using c21))
                        (try (have c21b2 : (t234 == false) = true := by simpa using c21))
                        clear c21
                        replace H := Option.bind_eq_some_iff.mp H
                        obtain ⟨t235, A220, H⟩ := H
                        replace H : (some t235) = some r := H
                        have A22 := Aside0.mk A220
                        clear A220
                        obtain rfl := Option.some.inj H
                        go_wp2_with (first | ((with_reducible refine gate_callee (f := 22) rfl ?_); refine goesL_ (some 66) rfl rfl Try.func22 (by kernel_rfl) rfl #[.int .i32 a0, .int .i64 a1] rfl (by (try simp only [List.map_toArray, List.map_cons, List.map_nil]); first | done | rfl | (simp only [List.length_drop, List.length_take]; rfl)) ?_; (with_reducible refine (word_Fits.calls a0 a1 t234 _ A20.out).mono ?_); rintro e w' ⟨rfl, ⟨nd, rfl⟩⟩; refine ⟨_, rfl, ?_⟩) | (go_at_call 14; (with_reducible refine (brazierlaw01_lives.calls k3  t235 _ A22.out).mono ?_); rintro e w23 ⟨rfl, hb⟩; have n0_ := Aside0.mk (below_step (by repeat (first | (with_reducible first | exact HB.out | apply below_alloc | apply pw_below_drewN | apply below_drew1) | exact HB.out)) hb); clear HB; have HB := n0_; clear n0_; (try clear hb); (try clear hb2); (try clear hk); (try clear hi)))
                        go_ret
                        exact ⟨by first | rfl | (simp [errW_none, errW_some] <;> rfl) | (simp [*, errW_none, errW_some] <;> rfl), by repeat (first | (with_reducible first | exact HB.out | apply below_alloc | apply pw_below_drewN | apply below_drew1) | exact HB.out)⟩
                      · rw [if_neg c21] at H
                        have c21b0 : (t234 == false) = false := by simpa using c21
                        (try (have c21b1 : decide (t234 = false) = false := by simpa using c21))
                        (try (have c21b2 : (t234 == false) = false := by simpa using c21))
                        (try (have c21b3 : ¬ (t234 = false) := by simpa using c21))
                        clear c21
                        obtain rfl := Option.some.inj H
                        go_wp2_with (first | ((with_reducible refine gate_callee (f := 22) rfl ?_); refine goesL_ (some 66) rfl rfl Try.func22 (by kernel_rfl) rfl #[.int .i32 a0, .int .i64 a1] rfl (by (try simp only [List.map_toArray, List.map_cons, List.map_nil]); first | done | rfl | (simp only [List.length_drop, List.length_take]; rfl)) ?_; (with_reducible refine (word_Fits.calls a0 a1 t234 _ A20.out).mono ?_); rintro e w' ⟨rfl, ⟨nd, rfl⟩⟩; refine ⟨_, rfl, ?_⟩))
                        go_ret
                        exact ⟨by first | rfl | (simp [errW_none, errW_some] <;> rfl) | (simp [*, errW_none, errW_some] <;> rfl), by repeat (first | (with_reducible first | exact HB.out | apply below_alloc | apply pw_below_drewN | apply below_drew1) | exact HB.out)⟩
            · replace c13 := Bool.eq_false_iff.mpr c13
              subst c13
              have H1 : ((word_Fits.f a0 a1).bind fun t236 => (if (t236 == false) = true then ((brazierlaw01_lives.f kj10).bind fun t237 => (some t237)) else (some false))) = some r := by rw [if_neg (show ¬ (false = true) by decide)] at H; exact H
              clear H
              have H := H1
              clear H1
              replace H := Option.bind_eq_some_iff.mp H
              obtain ⟨t236, A240, H⟩ := H
              replace H : (if (t236 == false) = true then ((brazierlaw01_lives.f kj10).bind fun t237 => (some t237)) else (some false)) = some r := H
              have A24 := Aside0.mk A240
              clear A240
              by_cases c25 : (t236 == false) = true
              · rw [if_pos c25] at H
                have c25b0 : (t236 == false) = true := c25
                (try (have c25b1 : decide (t236 = false) = true := by simpa using c25))
                (try (have c25b2 : (t236 == false) = true := by simpa using c25))
                clear c25
                replace H := Option.bind_eq_some_iff.mp H
                obtain ⟨t237, A260, H⟩ := H
                replace H : (some t237) = some r := H
                have A26 := Aside0.mk A260
                clear A260
                obtain rfl := Option.some.inj H
                go_wp2_with (first | ((with_reducible refine gate_callee (f := 22) rfl ?_); refine goesL_ (some 66) rfl rfl Try.func22 (by kernel_rfl) rfl #[.int .i32 a0, .int .i64 a1] rfl (by (try simp only [List.map_toArray, List.map_cons, List.map_nil]); first | done | rfl | (simp only [List.length_drop, List.length_take]; rfl)) ?_; (with_reducible refine (word_Fits.calls a0 a1 t236 _ A24.out).mono ?_); rintro e w' ⟨rfl, ⟨nd, rfl⟩⟩; refine ⟨_, rfl, ?_⟩) | (go_at_call 14; (with_reducible refine (brazierlaw01_lives.calls kj10  t237 _ A26.out).mono ?_); rintro e w27 ⟨rfl, hb⟩; have n0_ := Aside0.mk (below_step (by repeat (first | (with_reducible first | exact HB.out | apply below_alloc | apply pw_below_drewN | apply below_drew1) | exact HB.out)) hb); clear HB; have HB := n0_; clear n0_; (try clear hb); (try clear hb2); (try clear hk); (try clear hi)))
                go_ret
                exact ⟨by first | rfl | (simp [errW_none, errW_some] <;> rfl) | (simp [*, errW_none, errW_some] <;> rfl), by repeat (first | (with_reducible first | exact HB.out | apply below_alloc | apply pw_below_drewN | apply below_drew1) | exact HB.out)⟩
              · rw [if_neg c25] at H
                have c25b0 : (t236 == false) = false := by simpa using c25
                (try (have c25b1 : decide (t236 = false) = false := by simpa using c25))
                (try (have c25b2 : (t236 == false) = false := by simpa using c25))
                (try (have c25b3 : ¬ (t236 = false) := by simpa using c25))
                clear c25
                obtain rfl := Option.some.inj H
                go_wp2_with (first | ((with_reducible refine gate_callee (f := 22) rfl ?_); refine goesL_ (some 66) rfl rfl Try.func22 (by kernel_rfl) rfl #[.int .i32 a0, .int .i64 a1] rfl (by (try simp only [List.map_toArray, List.map_cons, List.map_nil]); first | done | rfl | (simp only [List.length_drop, List.length_take]; rfl)) ?_; (with_reducible refine (word_Fits.calls a0 a1 t236 _ A24.out).mono ?_); rintro e w' ⟨rfl, ⟨nd, rfl⟩⟩; refine ⟨_, rfl, ?_⟩))
                go_ret
                exact ⟨by first | rfl | (simp [errW_none, errW_some] <;> rfl) | (simp [*, errW_none, errW_some] <;> rfl), by repeat (first | (with_reducible first | exact HB.out | apply below_alloc | apply pw_below_drewN | apply below_drew1) | exact HB.out)⟩

/-- THE ONE PURE STATEMENT of brazierlaw01_WordSplits: yours. -/
def brazierlaw01_WordSplits.Pure : Prop := ∀ (a0 : Int) (a1 : Int), (Lit.int .i32 a0).wf = true → (Lit.int .i64 a1).wf = true → ∃ k, brazierlaw01_WordSplits.f k a0 a1 = some true
theorem brazierlaw01_WordSplits.walk (P : brazierlaw01_WordSplits.Pure) (a0 : Int) (a1 : Int) (w : World) (w0 : (Lit.int .i32 a0).wf = true) (w1 : (Lit.int .i64 a1).wf = true) :
    Calls Try.prog 7 #[.int .i32 a0, .int .i64 a1] w fun e w' => e = .returned (.bool true) ∧ Below w.heap.size w w' := by
  obtain ⟨k, h⟩ := P a0 a1 w0 w1
  refine (brazierlaw01_WordSplits.calls k a0 a1 true w h).mono ?_
  rintro e w' ⟨rfl, hd⟩
  exact ⟨rfl, hd⟩

/-! ### word_Un: function 23 -/
def word_Un.f (a0 : Int) (a1 : Int) : Option (Int × Bool) := if a0 = 19 then (some (wrap32 (-a1), true)) else (if a0 = 20 then ((word_truth.f (a1 == 0)).bind fun t238 => (some (t238, true))) else (if a0 = 21 then (some (Go.bits .xor .i32 (-1) a1, true)) else (some (0, false))))
set_option maxHeartbeats 8000000 in
set_option maxRecDepth 100000 in
theorem word_Un.calls (a0 : Int) (a1 : Int) (r1 : Int) (r2 : Bool) (w : World) (h : word_Un.f a0 a1 = some (r1, r2)) :
    Calls Try.prog 23 #[.int .i64 a0, .int .i32 a1] w fun e w' => e = .returned (.tuple #[.int .i32 r1, .bool r2]) ∧ Drawn0 w w' := by
  have H : (if a0 = 19 then (some (wrap32 (-a1), true)) else (if a0 = 20 then ((word_truth.f (a1 == 0)).bind fun t238 => (some (t238, true))) else (if a0 = 21 then (some (Go.bits .xor .i32 (-1) a1, true)) else (some (0, false))))) = some (r1, r2) := h
  clear h
  by_cases c3 : a0 = 19
  · rw [if_pos c3] at H
    have c3b0 : (a0 == 19) = true := beq_iff_eq.mpr c3
    have c3b1 : (a0 != 19) = false := bne_eq_false_iff_eq.mpr c3
    clear c3
    simp only [Option.some.injEq, Prod.mk.injEq] at H
    obtain ⟨rfl, rfl⟩ := H
    go_enter Try.func23, Try.ntmps23
    go_wp2
    go_ret2
    exact ⟨by first | rfl | (simp; done) | (simp [*]; done), by repeat (first | exact Drawn0.refl _ | apply Drawn0.step)⟩
  · rw [if_neg c3] at H
    have c3b0 : (a0 == 19) = false := beq_eq_false_iff_ne.mpr c3
    have c3b1 : (a0 != 19) = true := bne_iff_ne.mpr c3
    by_cases c4 : a0 = 20
    · rw [if_pos c4] at H
      have c4b0 : (a0 == 20) = true := beq_iff_eq.mpr c4
      have c4b1 : (a0 != 20) = false := bne_eq_false_iff_eq.mpr c4
      clear c4
      replace H := Option.bind_eq_some_iff.mp H
      obtain ⟨t238, A50, H⟩ := H
      replace H : (some (t238, true)) = some (r1, r2) := H
      have A5 := Aside0.mk A50
      clear A50
      simp only [Option.some.injEq, Prod.mk.injEq] at H
      obtain ⟨rfl, rfl⟩ := H
      go_enter Try.func23, Try.ntmps23
      go_wp2_with (first | ((with_reducible refine gate_callee (f := 39) rfl ?_); refine goesL_ (some 15) rfl rfl Try.func39 (by kernel_rfl) rfl #[.bool (a1 == 0)] rfl (by (try simp only [List.map_toArray, List.map_cons, List.map_nil]); first | done | rfl | (simp only [List.length_drop, List.length_take]; rfl)) ?_; (with_reducible refine (word_truth.calls (a1 == 0) t238 _ A5.out).mono ?_); rintro e w' ⟨rfl, ⟨nd, rfl⟩⟩; refine ⟨_, rfl, ?_⟩))
      go_ret2
      exact ⟨by first | rfl | (simp; done) | (simp [*]; done), by repeat (first | exact Drawn0.refl _ | apply Drawn0.step)⟩
    · rw [if_neg c4] at H
      have c4b0 : (a0 == 20) = false := beq_eq_false_iff_ne.mpr c4
      have c4b1 : (a0 != 20) = true := bne_iff_ne.mpr c4
      by_cases c6 : a0 = 21
      · rw [if_pos c6] at H
        have c6b0 : (a0 == 21) = true := beq_iff_eq.mpr c6
        have c6b1 : (a0 != 21) = false := bne_eq_false_iff_eq.mpr c6
        clear c6
        simp only [Option.some.injEq, Prod.mk.injEq] at H
        obtain ⟨rfl, rfl⟩ := H
        go_enter Try.func23, Try.ntmps23
        go_wp2
        go_ret2
        exact ⟨by first | rfl | (simp; done) | (simp [*]; done), by repeat (first | exact Drawn0.refl _ | apply Drawn0.step)⟩
      · rw [if_neg c6] at H
        have c6b0 : (a0 == 21) = false := beq_eq_false_iff_ne.mpr c6
        have c6b1 : (a0 != 21) = true := bne_iff_ne.mpr c6
        simp only [Option.some.injEq, Prod.mk.injEq] at H
        obtain ⟨rfl, rfl⟩ := H
        go_enter Try.func23, Try.ntmps23
        go_wp2
        go_ret2
        exact ⟨by first | rfl | (simp; done) | (simp [*]; done), by repeat (first | exact Drawn0.refl _ | apply Drawn0.step)⟩

/-! ### brazierlaw01_WordCompares: function 8 -/
/-- What the law asks of the words that its calls answer. -/
def brazierlaw01_WordCompares.Pure : Prop := ∀ (a0 : Int) (a1 : Int), (Lit.int .i32 a0).wf = true → (Lit.int .i32 a1).wf = true →
  ∃ (k : Nat) (n0 n1 n2 n3 n4 n5 p q x y z u : Int) (s0 s1 s2 s3 s4 s5 s6 s7 s8 s9 s10 s11 : Bool), word_Bin.f k 11 a0 a1 = some (n0, s0) ∧ word_Bin.f k 12 a0 a1 = some (n1, s1) ∧ word_Bin.f k 13 a0 a1 = some (n2, s2) ∧ word_Bin.f k 14 a0 a1 = some (n3, s3) ∧ word_Bin.f k 15 a0 a1 = some (n4, s4) ∧ word_Bin.f k 16 a0 a1 = some (n5, s5) ∧
    word_Bin.f k 17 a0 a1 = some (p, s6) ∧ word_Bin.f k 18 a0 a1 = some (q, s7) ∧ word_Un.f 20 a0 = some (x, s8) ∧ word_Un.f 20 a1 = some (y, s9) ∧ word_Bin.f k 18 x y = some (z, s10) ∧ word_Bin.f k 17 x y = some (u, s11) ∧
    wrap32 (wrap32 (n0 + n2) + n4) = 1 ∧ n1 = wrap32 (n0 + n4) ∧ n3 = wrap32 (n2 + n4) ∧ n5 = wrap32 (1 - n4) ∧ p = wrap32 (1 - z) ∧ q = wrap32 (1 - u) ∧ brazierlaw01_lives.f k = some true
set_option maxHeartbeats 2000000 in
set_option maxRecDepth 100000 in
theorem brazierlaw01_WordCompares.walk (P : brazierlaw01_WordCompares.Pure) (a0 : Int) (a1 : Int) (w : World) (w0 : (Lit.int .i32 a0).wf = true) (w1 : (Lit.int .i32 a1).wf = true) :
    Calls Try.prog 8 #[.int .i32 a0, .int .i32 a1] w fun e w' => e = .returned (.bool true) ∧ Below w.heap.size w w' := by
  obtain ⟨k, n0, n1, n2, n3, n4, n5, p, q, x, y, z, u, s0, s1, s2, s3, s4, s5, s6, s7, s8, s9, s10, s11, h0, h1, h2, h3, h4, h5, h6, h7, h8, h9, h10, h11, c1, c2, c3, c4, c5, c6, hlv⟩ := P a0 a1 w0 w1
  have H0 := Aside0.mk h0
  have H1 := Aside0.mk h1
  have H2 := Aside0.mk h2
  have H3 := Aside0.mk h3
  have H4 := Aside0.mk h4
  have H5 := Aside0.mk h5
  have H6 := Aside0.mk h6
  have H7 := Aside0.mk h7
  have H8 := Aside0.mk h8
  have H9 := Aside0.mk h9
  have H10 := Aside0.mk h10
  have H11 := Aside0.mk h11
  have HL := Aside0.mk hlv
  have C1 := Aside0.mk c1
  have C2 := Aside0.mk c2
  have C3 := Aside0.mk c3
  have C4 := Aside0.mk c4
  have C5 := Aside0.mk c5
  have C6 := Aside0.mk c6
  clear P h0 h1 h2 h3 h4 h5 h6 h7 h8 h9 h10 h11 hlv c1 c2 c3 c4 c5 c6
  go_enter Try.func8, Try.ntmps8
  go_wp2
  refine wp_loop_rounds 7 ?_
  rw [rounds_succ]
  go_wp2_with fail
  refine (word_Bin.calls k 11 a0 a1 n0 s0 _ H0.out).mono ?_
  rintro e w' ⟨rfl, ⟨m0, rfl⟩⟩
  go_wp2_with fail
  rw [rounds_succ]
  go_wp2_with fail
  refine (word_Bin.calls k 12 a0 a1 n1 s1 _ H1.out).mono ?_
  rintro e w' ⟨rfl, ⟨m1, rfl⟩⟩
  go_wp2_with fail
  rw [rounds_succ]
  go_wp2_with fail
  refine (word_Bin.calls k 13 a0 a1 n2 s2 _ H2.out).mono ?_
  rintro e w' ⟨rfl, ⟨m2, rfl⟩⟩
  go_wp2_with fail
  rw [rounds_succ]
  go_wp2_with fail
  refine (word_Bin.calls k 14 a0 a1 n3 s3 _ H3.out).mono ?_
  rintro e w' ⟨rfl, ⟨m3, rfl⟩⟩
  go_wp2_with fail
  rw [rounds_succ]
  go_wp2_with fail
  refine (word_Bin.calls k 15 a0 a1 n4 s4 _ H4.out).mono ?_
  rintro e w' ⟨rfl, ⟨m4, rfl⟩⟩
  go_wp2_with fail
  rw [rounds_succ]
  go_wp2_with fail
  refine (word_Bin.calls k 16 a0 a1 n5 s5 _ H5.out).mono ?_
  rintro e w' ⟨rfl, ⟨m5, rfl⟩⟩
  go_wp2_with fail
  rw [rounds_succ]
  go_wp2_with fail
  go_quiet (fail)
  go_wp2_with fail
  refine (word_Bin.calls k 17 a0 a1 p s6 _ H6.out).mono ?_
  rintro e w' ⟨rfl, ⟨m6, rfl⟩⟩
  go_wp2_with fail
  refine (word_Bin.calls k 18 a0 a1 q s7 _ H7.out).mono ?_
  rintro e w' ⟨rfl, ⟨m7, rfl⟩⟩
  go_wp2_with fail
  refine (word_Un.calls 20 a0 x s8 _ H8.out).mono ?_
  rintro e w' ⟨rfl, ⟨m8, rfl⟩⟩
  go_wp2_with fail
  refine (word_Un.calls 20 a1 y s9 _ H9.out).mono ?_
  rintro e w' ⟨rfl, ⟨m9, rfl⟩⟩
  go_wp2_with fail
  refine (word_Bin.calls k 18 x y z s10 _ H10.out).mono ?_
  rintro e w' ⟨rfl, ⟨m10, rfl⟩⟩
  go_wp2_with fail
  refine (word_Bin.calls k 17 x y u s11 _ H11.out).mono ?_
  rintro e w' ⟨rfl, ⟨m11, rfl⟩⟩
  have b1 : (wrap32 (wrap32 (n0 + n2) + n4) == 1) = true := beq_iff_eq.2 C1.out
  have b2 : (n1 == wrap32 (n0 + n4)) = true := beq_iff_eq.2 C2.out
  have b3 : (n3 == wrap32 (n2 + n4)) = true := beq_iff_eq.2 C3.out
  have b4 : (n5 == wrap32 (1 - n4)) = true := beq_iff_eq.2 C4.out
  have b5 : (p == wrap32 (1 - z)) = true := beq_iff_eq.2 C5.out
  have b6 : (q == wrap32 (1 - u)) = true := beq_iff_eq.2 C6.out
  go_wp2_with fail
  refine (brazierlaw01_lives.calls k true _ HL.out).mono ?_
  rintro e w' ⟨rfl, hb⟩
  go_wp2
  go_ret
  refine ⟨rfl, ?_⟩
  refine Below.trans ?_ (hb.mono ?_)
  · repeat (first | (with_reducible refine pw_below_drewN ?_ _) | (with_reducible refine Below.setCell ?_ (by exact Nat.le_refl _) _))
    exact (Below.refl _ _).alloc (Nat.le_refl _) _
  · simp

/-! ### word_Put: function 24 -/
def word_Put.f (l0 : List Int) (a1 : Int) : Option (List Int) := if l0.length ≤ 1000000000000 then some (l0 ++ [a1 % 4294967296 % 256, a1 % 4294967296 / 256 % 256, a1 % 4294967296 / 65536 % 256, a1 % 4294967296 / 16777216 % 256]) else none
theorem put_size (W : World) : (sizeOf 5).run Try.prog W = .ok 1 W := by kernel_rfl
theorem put_elem : Try.prog.elem 43 = 5 := by kernel_rfl
theorem put_cut (A : Option Addr) (n c : Nat) (h : n ≤ c) (W : World) :
    (Instr.slice 43 (.slice A n c) none (some (.int .i64 (n : Int))) (some (.int .i64 (n : Int)))).run Try.prog W = .ok (.slice A n n) W := by
  rw [run_slice_hm W 43 A n c (by rw [put_elem]; exact Try.underlying43) .i64 .i64 (n : Int) (n : Int) (by omega) (Int.le_refl _) (by omega), put_elem, put_size]
  simp only [Result.andThen_ok, sliced, Int.toNat_natCast]
  congr 2
  · split
    · rfl
    · cases A with
      | none => rfl
      | some a => simp only [Option.map_some, Nat.zero_mul]; congr 1
theorem put_four {P : Program} {ops : Array Oper} {rest : List Oper} {o : Oper} {a : Act} {Q : Exit → Act → World → Prop} {W : World} (hgd : o.guard = none) (s x : Operand) (t e : TypeId)
    (ho : o.op = .call { callee := .builtin .append, args := #[s, x], argTypes := #[t, t] })
    (ht : P.underlying t = some (.slice e)) (hinfo : (P.info? e).map (fun i => (i.zero, i.size, i.bytes)) = some (some (.int .u8 0), 1, 1))
    (A : Option Addr) (n : Nat) (xs : List Int) (y1 y2 y3 y4 : Int) (hs : a.eval s = .slice A n n) (hx : a.eval x = .slice (some ⟨W.heap.size, 0, none⟩) 4 4)
    (hlen : xs.length = n) (HC : Kd.C (Kd.int .u8) W A n xs) (hl : n ≤ 1000000000000)
    (h : ∀ v1 w1, w1.ownsRow W.heap.size e 1 v1 (n + 4) (nums .u8 (xs ++ [y1, y2, y3, y4])) → Below W.heap.size W w1 → wpList P ops Q rest (a.put o.dst v1) w1) :
    wpList P ops Q (o :: rest) a (W.alloc (.cells #[.int .u8 y1, .int .u8 y2, .int .u8 y3, .int .u8 y4] e)) := by
  obtain ⟨i0, hi, hzz⟩ := Option.map_eq_some_iff.1 hinfo
  simp only [Prod.mk.injEq] at hzz
  obtain ⟨hz0, hz1, hz2⟩ := hzz
  refine wpList_append_grows (W.alloc (.cells #[.int .u8 y1, .int .u8 y2, .int .u8 y3, .int .u8 y4] e)) hgd s x t ho e i0 (.int .u8 0) 1 1 ht hi hz0 hz1 hz2 rfl (by decide) A n n (nums .u8 xs) hs (fun hA => ?_) (by rw [nums_length, hlen]; omega) (fun b hA j u hj => ?_) ⟨W.heap.size, 0, none⟩ 4 4 [.int .u8 y1, .int .u8 y2, .int .u8 y3, .int .u8 y4] hx rfl
    (World.news_of_block (cs := #[.int .u8 y1, .int .u8 y2, .int .u8 y3, .int .u8 y4]) (t := e) (fr := (0, 0)) (heap_alloc_new W _)) (by simp [Value.oneCell']) (by omega) (by simp only [maxLen]; omega) (by omega) ?_
  · rcases Nat.eq_zero_or_pos n with h0 | h0
    · exact ⟨h0, h0⟩
    · obtain ⟨ad, he, _⟩ := Kd.at_int HC 0 (by decide) (by omega)
      rw [hA] at he; cases he
  · have hj2 : j < xs.length := by
      have := (List.getElem?_eq_some_iff.1 hj).1
      rwa [nums_length] at this
    obtain ⟨ad, he, hc⟩ := Kd.at_int HC (j : Int) (by omega) (by omega)
    rw [hA] at he
    obtain rfl := Option.some.inj he
    have hu : u = .int .u8 (rd xs (j : Int)) := by
      unfold nums at hj
      rw [List.getElem?_map, List.getElem?_eq_getElem hj2] at hj
      unfold rd
      rw [Int.toNat_natCast, List.getD_eq_getElem?_getD, List.getElem?_eq_getElem hj2]
      exact (Option.some.inj hj).symm
    rw [hu]
    rw [Int.toNat_natCast] at hc
    exact World.cell?_alloc_lt _ _ _ (World.block_lt_of_cell? W _ hc) |>.trans hc
  · intro v1 w1 hown hg
    refine h v1 w1 ?_ ?_
    · have h2 := own_less (base := W.heap.size) hown (by simp)
      rw [nums_append]
      exact h2
    · exact (((Below.refl W.heap.size W).alloc (Nat.le_refl _) _).grown hg (by simp) (fun k hk => by cases hk))
set_option maxHeartbeats 1000000 in
set_option maxRecDepth 100000 in
theorem word_Put.calls (A0 : Option Addr) (c0 : Nat) (l0 : List Int) (a1 : Int) (r : List Int) (w : World) (hr0 : Kd.C (Kd.int .u8) w A0 l0.length l0) (hc0 : l0.length ≤ c0) (h : word_Put.f l0 a1 = some r) :
    Calls Try.prog 24 #[.slice A0 l0.length c0, .int .i32 a1] w fun e w' => ∃ v0_ : Value, e = .returned (v0_) ∧ Kd.R (Kd.int .u8) 5 w' w.heap.size (fun _ => True) v0_ r ∧ Below w.heap.size w w' := by
  unfold word_Put.f at h
  by_cases hl : l0.length ≤ 1000000000000
  · rw [if_pos hl] at h
    obtain rfl := Option.some.inj h
    have HR := Aside0.mk hr0
    clear h hr0
    have hcut := put_cut A0 l0.length c0 hc0
    go_enter Try.func24, Try.ntmps24
    go_wp2_with (at_builtin; refine put_four rfl (.tmp 13) (.tmp 25) 43 5 rfl Try.underlying43 info5 A0 l0.length l0 _ _ _ _ rfl rfl rfl HR.out hl ?_)
    intro v1 w1 ho hb
    have HO := Aside0.mk ho
    have HBB := Aside0.mk hb
    clear ho hb
    go_wp2
    go_ret
    refine ⟨_, rfl, ?_, HBB.out⟩
    have ho := HO.out
    have e1 : a1 % 256 = a1 % 4294967296 % 256 := by omega
    have e2 : a1 % 4294967296 / 16777216 = a1 % 4294967296 / 16777216 % 256 := by omega
    rw [e1, e2] at ho
    refine Kd.R_of_own (enc := Value.int .u8) ?_ (fun _ _ => trivial)
    have hlen : (l0 ++ [a1 % 4294967296 % 256, a1 % 4294967296 / 256 % 256, a1 % 4294967296 / 65536 % 256, a1 % 4294967296 / 16777216 % 256]).length = l0.length + 4 := by simp
    rw [hlen]
    exact ho
  · rw [if_neg hl] at h; cases h

/-! ### brazierref01_Put: function 25 -/
def brazierref01_Put.f (a0 : Int) : Option (List Int) := (brazierref01_bits.f a0).bind fun t239 => (some (([(Int.tmod t239 256) % 256, (Int.tmod (wrap64 (Int.tdiv t239 256)) 256) % 256, (Int.tmod (wrap64 (Int.tdiv t239 65536)) 256) % 256, (wrap64 (Int.tdiv t239 16777216)) % 256] : List Int)))
set_option maxHeartbeats 8000000 in
set_option maxRecDepth 100000 in
theorem brazierref01_Put.calls (a0 : Int) (r : List Int) (w : World) (h : brazierref01_Put.f a0 = some r) :
    Calls Try.prog 25 #[.int .i32 a0] w fun e w' => ∃ v0_ : Value, e = .returned (v0_) ∧ Kd.R (Kd.int .u8) 5 w' w.heap.size (fun _ => True) v0_ r ∧ Below w.heap.size w w' := by
  have HB := Aside0.mk (Below.refl w.heap.size w)
  have H : ((brazierref01_bits.f a0).bind fun t239 => (some (([(Int.tmod t239 256) % 256, (Int.tmod (wrap64 (Int.tdiv t239 256)) 256) % 256, (Int.tmod (wrap64 (Int.tdiv t239 65536)) 256) % 256, (wrap64 (Int.tdiv t239 16777216)) % 256] : List Int)))) = some r := h
  clear h
  replace H := Option.bind_eq_some_iff.mp H
  obtain ⟨t239, A20, H⟩ := H
  replace H : (some (([(Int.tmod t239 256) % 256, (Int.tmod (wrap64 (Int.tdiv t239 256)) 256) % 256, (Int.tmod (wrap64 (Int.tdiv t239 65536)) 256) % 256, (wrap64 (Int.tdiv t239 16777216)) % 256] : List Int))) = some r := H
  have A2 := Aside0.mk A20
  clear A20
  obtain ⟨y240, hy240⟩ : ∃ y_ : List Int, y_ = (([(Int.tmod t239 256) % 256, (Int.tmod (wrap64 (Int.tdiv t239 256)) 256) % 256, (Int.tmod (wrap64 (Int.tdiv t239 65536)) 256) % 256, (wrap64 (Int.tdiv t239 16777216)) % 256] : List Int)) := ⟨_, rfl⟩
  replace H : (some y240) = some r := by first | (rw [hy240]; with_reducible exact H) | (have H2_ := (Option.bind_some _ _).symm.trans H; rw [hy240]; with_reducible exact H2_) | (have H2_ := (Option.bind_some _ _).symm.trans H; with_reducible exact H2_) | with_reducible exact H | (rw [hy240]; exact H) | exact H
  have Ny240 := Aside0.mk hy240
  clear hy240
  obtain rfl := Option.some.inj H
  go_enter Try.func25, Try.ntmps25
  go_wp2_with (first | ((with_reducible refine gate_callee (f := 35) rfl ?_); refine goesL_ (some 5) rfl rfl Try.func35 (by kernel_rfl) rfl #[.int .i32 a0] rfl (by (try simp only [List.map_toArray, List.map_cons, List.map_nil]); first | done | rfl | (simp only [List.length_drop, List.length_take]; rfl)) ?_; (with_reducible refine (brazierref01_bits.calls a0 t239 _ A2.out).mono ?_); rintro e w' ⟨rfl, ⟨nd, rfl⟩⟩; refine ⟨_, rfl, ?_⟩) | ((with_reducible refine gate_dst (N := 20) rfl ?_); refine Kd.R_lit (Kd.int .u8) _ 5 ?hg (N := 20) ?hd (xs := ([(Int.tmod t239 256) % 256, (Int.tmod (wrap64 (Int.tdiv t239 256)) 256) % 256, (Int.tmod (wrap64 (Int.tdiv t239 65536)) 256) % 256, (wrap64 (Int.tdiv t239 16777216)) % 256] : List Int)) (inner := [.int .u8 ((Int.tmod t239 256) % 256), .int .u8 ((Int.tmod (wrap64 (Int.tdiv t239 256)) 256) % 256), .int .u8 ((Int.tmod (wrap64 (Int.tdiv t239 65536)) 256) % 256), .int .u8 ((wrap64 (Int.tdiv t239 16777216)) % 256)]) (ok := fun _ => True) (okp := fun _ => True) ?hr ?hp (fun _ hk => hk) trivial (Below.refl _ _) (Nat.le_refl _) (by simp) ?_; (case hd => rfl); (case hg => rfl); (case hr => first | (go_simp; done) | (go_simp; rfl)); (case hp => exact (Reps.one (show Kd.M (Kd.int .u8) _ _ _ ((Int.tmod t239 256) % 256) [.int .u8 ((Int.tmod t239 256) % 256)] from rfl) (Reps.one (show Kd.M (Kd.int .u8) _ _ _ ((Int.tmod (wrap64 (Int.tdiv t239 256)) 256) % 256) [.int .u8 ((Int.tmod (wrap64 (Int.tdiv t239 256)) 256) % 256)] from rfl) (Reps.one (show Kd.M (Kd.int .u8) _ _ _ ((Int.tmod (wrap64 (Int.tdiv t239 65536)) 256) % 256) [.int .u8 ((Int.tmod (wrap64 (Int.tdiv t239 65536)) 256) % 256)] from rfl) (Reps.one (show Kd.M (Kd.int .u8) _ _ _ ((wrap64 (Int.tdiv t239 16777216)) % 256) [.int .u8 ((wrap64 (Int.tdiv t239 16777216)) % 256)] from rfl) (Reps.none _ _)))))); intro v241 w3 ho4 hb hg_ hnew_; clear hg_ hnew_; (first | rw [← Ny240.out] at ho4 | (simp only [Int.reduceToNat] at ho4; rw [← Ny240.out] at ho4)); have n0_ := Aside0.mk (Kd.R_lower ho4 (below_size (by repeat (first | (with_reducible first | exact HB.out | apply below_alloc | apply pw_below_drewN | apply below_drew1) | exact HB.out)))); have n1_ := Aside0.mk (below_step (by repeat (first | (with_reducible first | exact HB.out | apply below_alloc | apply pw_below_drewN | apply below_drew1) | exact HB.out)) hb); clear HB; have HO242 := n0_; have HB := n1_; clear n0_ n1_; clear hb ho4))
  go_ret
  exact ⟨_, by first | rfl | (simp [errW_none, errW_some] <;> rfl) | (simp [*, errW_none, errW_some] <;> rfl), by (with_reducible repeat (first | apply Kd.R_alloc | apply Kd.R_drewN | apply Kd.R_drew)); exact HO242.out, by repeat (first | (with_reducible first | exact HB.out | apply below_alloc | apply pw_below_drewN | apply below_drew1) | exact HB.out)⟩

end Go.Proofs.Ytfpaigfknohhfaa.X
