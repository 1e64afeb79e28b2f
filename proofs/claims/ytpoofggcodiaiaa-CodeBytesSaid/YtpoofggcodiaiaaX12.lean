/- The walks: for each Go function a Lean function with the same answers, and the proof that the Go code comes to them; no condition beyond what each contract states. Written by this session's own program xprint.py (over the kit's print program); not one of print.sh's texts. -/
import Derived.Test.YtpoofggcodiaiaaX0
import Derived.Test.YtpoofggcodiaiaaX10
import Derived.Test.YtpoofggcodiaiaaX11
namespace Go.Proofs.Ytpoofggcodiaiaa.X
open Go.RowKit Go.Proofs.YtpoofggcodiaiaaW.PrintWords Go.Proofs.YtpoofggcodiaiaaW.PrintLast Go.Proofs.YtpoofggcodiaiaaW.PrintMore
attribute [local go_sem] max2_int min2_int max_two min_two max_three min_three max_four min_four   -- for this text's walks alone
set_option linter.unusedVariables false
set_option linter.unusedSimpArgs false

private theorem xdn {w : World} {a b : Nat} : ∃ n, (w.drewN a).drewN b = w.drewN n := ⟨_, World.drewN_drewN _ _ _⟩
/-! ### brazierref19_Encode: function 9 -/
mutual
def brazierref19_Encode.j0 : Nat → Bool → Int → Int → Int → Int → Int → Int → ByteArray → Option (Int × Bool)
 | 0, _, _, _, _, _, _, _, _ => none
 | k + 1, x20, x154000, x154001, x154002, x154003, x154004, x154005, x154006 => if x20 = true then (some (0, false)) else ((some (([0, 55, 19, 19, 19, 19, 19, 19, 19, 19, 19, 51, 51, 51, 51, 51, 51, 51, 51, 51, 51, 51, 51, 51, 3, 35, 99, 99, 111, 103, 115] : List Int) : List Int)).bind fun y155 => ((some (([0, 0, 0, 2, 3, 4, 6, 7, 1, 5, 5, 0, 0, 1, 2, 3, 4, 5, 5, 6, 7, 0, 4, 6, 2, 2, 0, 1, 0, 0, 0] : List Int) : List Int)).bind fun y158 => (if 0 ≤ x154001 then (if x154001 < (y155.length : Int) then (if x154001 < (y158.length : Int) then ((brazierref19_lay.f k (((rd y155 x154001) + ((rd y158 x154001) * 4096)) % 4294967296) x154002 0 5 7).bind fun t163 => ((brazierref19_lay.f k t163 x154003 0 5 15).bind fun t164 => ((brazierref19_lay.f k t164 x154004 0 5 20).bind fun t165 => (if x154001 = 1 then ((brazierref19_lay.f k t165 (wrap64 (x154005)) 0 20 12).bind fun t166 => (brazierref19_Encode.j4 k t166 x154000 x154001 x154002 x154003 x154004 x154005 x154006)) else (if x154001 = 28 then ((brazierref19_lay.f k t165 (wrap64 (x154005)) 1 10 21).bind fun t167 => ((brazierref19_lay.f k t167 (wrap64 (x154005)) 11 1 20).bind fun t168 => ((brazierref19_lay.f k t168 (wrap64 (x154005)) 12 8 12).bind fun t169 => ((brazierref19_lay.f k t169 (wrap64 (x154005)) 20 1 31).bind fun t170 => (brazierref19_Encode.j4 k t170 x154000 x154001 x154002 x154003 x154004 x154005 x154006))))) else (if x154001 = 2 then (brazierref19_Encode.j1 k t165 (wrap64 (x154005)) x154001 (x154001 == 2) x154000 x154001 x154002 x154003 x154004 x154005 x154006) else (if x154001 = 3 then (brazierref19_Encode.j1 k t165 (wrap64 (x154005)) x154001 (x154001 == 3) x154000 x154001 x154002 x154003 x154004 x154005 x154006) else (if x154001 = 4 then (brazierref19_Encode.j1 k t165 (wrap64 (x154005)) x154001 (x154001 == 4) x154000 x154001 x154002 x154003 x154004 x154005 x154006) else (if x154001 = 5 then (brazierref19_Encode.j1 k t165 (wrap64 (x154005)) x154001 (x154001 == 5) x154000 x154001 x154002 x154003 x154004 x154005 x154006) else (if x154001 = 6 then (brazierref19_Encode.j1 k t165 (wrap64 (x154005)) x154001 (x154001 == 6) x154000 x154001 x154002 x154003 x154004 x154005 x154006) else (if x154001 = 7 then (brazierref19_Encode.j1 k t165 (wrap64 (x154005)) x154001 (x154001 == 7) x154000 x154001 x154002 x154003 x154004 x154005 x154006) else (if x154001 = 24 then (brazierref19_Encode.j1 k t165 (wrap64 (x154005)) x154001 (x154001 == 24) x154000 x154001 x154002 x154003 x154004 x154005 x154006) else (brazierref19_Encode.j1 k t165 (wrap64 (x154005)) x154001 (x154001 == 29) x154000 x154001 x154002 x154003 x154004 x154005 x154006))))))))))))) else (none)) else (none)) else (none))))
def brazierref19_Encode.j4 : Nat → Int → Int → Int → Int → Int → Int → Int → ByteArray → Option (Int × Bool)
 | 0, _, _, _, _, _, _, _, _ => none
 | k + 1, x6, x154000, x154001, x154002, x154003, x154004, x154005, x154006 => if x154001 = 10 then (brazierref19_Encode.j5 k x6 true x154000 x154001 x154002 x154003 x154004 x154005 x154006) else (if x154001 = 12 then (brazierref19_Encode.j5 k x6 true x154000 x154001 x154002 x154003 x154004 x154005 x154006) else (brazierref19_Encode.j5 k x6 (x154001 == 18) x154000 x154001 x154002 x154003 x154004 x154005 x154006))
def brazierref19_Encode.j5 : Nat → Int → Bool → Int → Int → Int → Int → Int → Int → ByteArray → Option (Int × Bool)
 | 0, _, _, _, _, _, _, _, _, _ => none
 | k + 1, x6, x125, x154000, x154001, x154002, x154003, x154004, x154005, x154006 => if x125 = true then (if x154001 ≥ 21 then (if x154001 ≤ 23 then (some (Go.bits .or .u32 (Go.bits .or .u32 x6 1073741824) 33554432, true)) else (some (Go.bits .or .u32 x6 1073741824, true))) else (some (Go.bits .or .u32 x6 1073741824, true))) else (if x154001 ≥ 21 then (if x154001 ≤ 23 then (some (Go.bits .or .u32 x6 33554432, true)) else (some (x6, true))) else (some (x6, true)))
def brazierref19_Encode.j1 : Nat → Int → Int → Int → Bool → Int → Int → Int → Int → Int → Int → ByteArray → Option (Int × Bool)
 | 0, _, _, _, _, _, _, _, _, _, _, _ => none
 | k + 1, x6, x7, x51, x71, x154000, x154001, x154002, x154003, x154004, x154005, x154006 => if x71 = true then ((brazierref19_lay.f k x6 x7 0 12 20).bind fun t171 => (brazierref19_Encode.j4 k t171 x154000 x154001 x154002 x154003 x154004 x154005 x154006)) else (if x51 = 8 then (brazierref19_Encode.j2 k x6 x7 x51 (x51 == 8) x154000 x154001 x154002 x154003 x154004 x154005 x154006) else (if x51 = 9 then (brazierref19_Encode.j2 k x6 x7 x51 (x51 == 9) x154000 x154001 x154002 x154003 x154004 x154005 x154006) else (brazierref19_Encode.j2 k x6 x7 x51 (x51 == 10) x154000 x154001 x154002 x154003 x154004 x154005 x154006)))
def brazierref19_Encode.j2 : Nat → Int → Int → Int → Bool → Int → Int → Int → Int → Int → Int → ByteArray → Option (Int × Bool)
 | 0, _, _, _, _, _, _, _, _, _, _, _ => none
 | k + 1, x6, x7, x51, x83, x154000, x154001, x154002, x154003, x154004, x154005, x154006 => if x83 = true then ((brazierref19_lay.f k x6 x7 0 5 20).bind fun t172 => (brazierref19_Encode.j4 k t172 x154000 x154001 x154002 x154003 x154004 x154005 x154006)) else (if x51 = 25 then ((brazierref19_lay.f k x6 x7 0 5 7).bind fun t173 => ((brazierref19_lay.f k t173 x7 5 7 25).bind fun t174 => (brazierref19_Encode.j4 k t174 x154000 x154001 x154002 x154003 x154004 x154005 x154006))) else (if x51 = 26 then (brazierref19_Encode.j3 k x6 x7 (x51 == 26) x154000 x154001 x154002 x154003 x154004 x154005 x154006) else (brazierref19_Encode.j3 k x6 x7 (x51 == 27) x154000 x154001 x154002 x154003 x154004 x154005 x154006)))
def brazierref19_Encode.j3 : Nat → Int → Int → Bool → Int → Int → Int → Int → Int → Int → ByteArray → Option (Int × Bool)
 | 0, _, _, _, _, _, _, _, _, _, _ => none
 | k + 1, x6, x7, x98, x154000, x154001, x154002, x154003, x154004, x154005, x154006 => if x98 = true then ((brazierref19_lay.f k x6 x7 1 4 8).bind fun t175 => ((brazierref19_lay.f k t175 x7 5 6 25).bind fun t176 => ((brazierref19_lay.f k t176 x7 11 1 7).bind fun t177 => ((brazierref19_lay.f k t177 x7 12 1 31).bind fun t178 => (brazierref19_Encode.j4 k t178 x154000 x154001 x154002 x154003 x154004 x154005 x154006))))) else (brazierref19_Encode.j4 k x6 x154000 x154001 x154002 x154003 x154004 x154005 x154006)
end
def brazierref19_Encode.f (k : Nat) (a0_0 : Int) (a0_1 : Int) (a0_2 : Int) (a0_3 : Int) (a0_4 : Int) (a0_5 : Int) (a0_6 : ByteArray) : Option (Int × Bool) := if a0_0 = 2 then (if a0_6.toList = ([] : List UInt8) then ((brazierref17_MayLine.f k a0_0 a0_1 a0_2 a0_3 a0_4 a0_5 a0_6).bind fun t154 => (brazierref19_Encode.j0 k (!t154) a0_0 a0_1 a0_2 a0_3 a0_4 a0_5 a0_6)) else (brazierref19_Encode.j0 k true a0_0 a0_1 a0_2 a0_3 a0_4 a0_5 a0_6)) else (brazierref19_Encode.j0 k true a0_0 a0_1 a0_2 a0_3 a0_4 a0_5 a0_6)
theorem brazierref19_Encode.mono_l : ∀ k, (∀ y0 y1 y2 y3 y4 y5 y6 y7, LeO (brazierref19_Encode.j0 k y0 y1 y2 y3 y4 y5 y6 y7) (brazierref19_Encode.j0 (k + 1) y0 y1 y2 y3 y4 y5 y6 y7)) ∧ (∀ y0 y1 y2 y3 y4 y5 y6 y7, LeO (brazierref19_Encode.j4 k y0 y1 y2 y3 y4 y5 y6 y7) (brazierref19_Encode.j4 (k + 1) y0 y1 y2 y3 y4 y5 y6 y7)) ∧ (∀ y0 y1 y2 y3 y4 y5 y6 y7 y8, LeO (brazierref19_Encode.j5 k y0 y1 y2 y3 y4 y5 y6 y7 y8) (brazierref19_Encode.j5 (k + 1) y0 y1 y2 y3 y4 y5 y6 y7 y8)) ∧ (∀ y0 y1 y2 y3 y4 y5 y6 y7 y8 y9 y10, LeO (brazierref19_Encode.j1 k y0 y1 y2 y3 y4 y5 y6 y7 y8 y9 y10) (brazierref19_Encode.j1 (k + 1) y0 y1 y2 y3 y4 y5 y6 y7 y8 y9 y10)) ∧ (∀ y0 y1 y2 y3 y4 y5 y6 y7 y8 y9 y10, LeO (brazierref19_Encode.j2 k y0 y1 y2 y3 y4 y5 y6 y7 y8 y9 y10) (brazierref19_Encode.j2 (k + 1) y0 y1 y2 y3 y4 y5 y6 y7 y8 y9 y10)) ∧ (∀ y0 y1 y2 y3 y4 y5 y6 y7 y8 y9, LeO (brazierref19_Encode.j3 k y0 y1 y2 y3 y4 y5 y6 y7 y8 y9) (brazierref19_Encode.j3 (k + 1) y0 y1 y2 y3 y4 y5 y6 y7 y8 y9))
 | 0 => ⟨fun _ _ _ _ _ _ _ _ r h => by simp [brazierref19_Encode.j0] at h, fun _ _ _ _ _ _ _ _ r h => by simp [brazierref19_Encode.j4] at h, fun _ _ _ _ _ _ _ _ _ r h => by simp [brazierref19_Encode.j5] at h, fun _ _ _ _ _ _ _ _ _ _ _ r h => by simp [brazierref19_Encode.j1] at h, fun _ _ _ _ _ _ _ _ _ _ _ r h => by simp [brazierref19_Encode.j2] at h, fun _ _ _ _ _ _ _ _ _ _ r h => by simp [brazierref19_Encode.j3] at h⟩
 | k + 1 => by
  obtain ⟨ih0, ih1, ih2, ih3, ih4, ih5⟩ := brazierref19_Encode.mono_l k
  refine ⟨?_, ?_, ?_, ?_, ?_, ?_⟩
  ·intro y0 y1 y2 y3 y4 y5 y6 y7
   unfold brazierref19_Encode.j0
   repeat' first
   | (with_reducible exact ih0 _ _ _ _ _ _ _ _)
   | (with_reducible exact ih1 _ _ _ _ _ _ _ _)
   | (with_reducible exact ih2 _ _ _ _ _ _ _ _ _)
   | (with_reducible exact ih3 _ _ _ _ _ _ _ _ _ _ _)
   | (with_reducible exact ih4 _ _ _ _ _ _ _ _ _ _ _)
   | (with_reducible exact ih5 _ _ _ _ _ _ _ _ _ _)
   | (with_reducible exact brazierref17_MayLine.mono _ _ _ _ _ _ _ _)
   | (with_reducible exact brazierref19_lay.mono _ _ _ _ _ _)
   | (with_reducible exact LeO.refl _)
   | (with_reducible exact LeO.none _)
   | (with_reducible refine LeO.ite ?_ ?_)
   | (with_reducible refine LeO.bind ?_ (fun _ => ?_))
   | exact ih0 _ _ _ _ _ _ _ _
   | exact ih1 _ _ _ _ _ _ _ _
   | exact ih2 _ _ _ _ _ _ _ _ _
   | exact ih3 _ _ _ _ _ _ _ _ _ _ _
   | exact ih4 _ _ _ _ _ _ _ _ _ _ _
   | exact ih5 _ _ _ _ _ _ _ _ _ _
   | exact brazierref17_MayLine.mono _ _ _ _ _ _ _ _
   | exact brazierref19_lay.mono _ _ _ _ _ _
   | exact LeO.none _
   | refine LeO.ite ?_ ?_
   | refine LeO.bind ?_ (fun _ => ?_)
  ·intro y0 y1 y2 y3 y4 y5 y6 y7
   unfold brazierref19_Encode.j4
   repeat' first
   | (with_reducible exact ih0 _ _ _ _ _ _ _ _)
   | (with_reducible exact ih1 _ _ _ _ _ _ _ _)
   | (with_reducible exact ih2 _ _ _ _ _ _ _ _ _)
   | (with_reducible exact ih3 _ _ _ _ _ _ _ _ _ _ _)
   | (with_reducible exact ih4 _ _ _ _ _ _ _ _ _ _ _)
   | (with_reducible exact ih5 _ _ _ _ _ _ _ _ _ _)
   | (with_reducible exact brazierref17_MayLine.mono _ _ _ _ _ _ _ _)
   | (with_reducible exact brazierref19_lay.mono _ _ _ _ _ _)
   | (with_reducible exact LeO.refl _)
   | (with_reducible exact LeO.none _)
   | (with_reducible refine LeO.ite ?_ ?_)
   | (with_reducible refine LeO.bind ?_ (fun _ => ?_))
   | exact ih0 _ _ _ _ _ _ _ _
   | exact ih1 _ _ _ _ _ _ _ _
   | exact ih2 _ _ _ _ _ _ _ _ _
   | exact ih3 _ _ _ _ _ _ _ _ _ _ _
   | exact ih4 _ _ _ _ _ _ _ _ _ _ _
   | exact ih5 _ _ _ _ _ _ _ _ _ _
   | exact brazierref17_MayLine.mono _ _ _ _ _ _ _ _
   | exact brazierref19_lay.mono _ _ _ _ _ _
   | exact LeO.none _
   | refine LeO.ite ?_ ?_
   | refine LeO.bind ?_ (fun _ => ?_)
  ·intro y0 y1 y2 y3 y4 y5 y6 y7 y8
   unfold brazierref19_Encode.j5
   repeat' first
   | (with_reducible exact ih0 _ _ _ _ _ _ _ _)
   | (with_reducible exact ih1 _ _ _ _ _ _ _ _)
   | (with_reducible exact ih2 _ _ _ _ _ _ _ _ _)
   | (with_reducible exact ih3 _ _ _ _ _ _ _ _ _ _ _)
   | (with_reducible exact ih4 _ _ _ _ _ _ _ _ _ _ _)
   | (with_reducible exact ih5 _ _ _ _ _ _ _ _ _ _)
   | (with_reducible exact brazierref17_MayLine.mono _ _ _ _ _ _ _ _)
   | (with_reducible exact brazierref19_lay.mono _ _ _ _ _ _)
   | (with_reducible exact LeO.refl _)
   | (with_reducible exact LeO.none _)
   | (with_reducible refine LeO.ite ?_ ?_)
   | (with_reducible refine LeO.bind ?_ (fun _ => ?_))
   | exact ih0 _ _ _ _ _ _ _ _
   | exact ih1 _ _ _ _ _ _ _ _
   | exact ih2 _ _ _ _ _ _ _ _ _
   | exact ih3 _ _ _ _ _ _ _ _ _ _ _
   | exact ih4 _ _ _ _ _ _ _ _ _ _ _
   | exact ih5 _ _ _ _ _ _ _ _ _ _
   | exact brazierref17_MayLine.mono _ _ _ _ _ _ _ _
   | exact brazierref19_lay.mono _ _ _ _ _ _
   | exact LeO.none _
   | refine LeO.ite ?_ ?_
   | refine LeO.bind ?_ (fun _ => ?_)
  ·intro y0 y1 y2 y3 y4 y5 y6 y7 y8 y9 y10
   unfold brazierref19_Encode.j1
   repeat' first
   | (with_reducible exact ih0 _ _ _ _ _ _ _ _)
   | (with_reducible exact ih1 _ _ _ _ _ _ _ _)
   | (with_reducible exact ih2 _ _ _ _ _ _ _ _ _)
   | (with_reducible exact ih3 _ _ _ _ _ _ _ _ _ _ _)
   | (with_reducible exact ih4 _ _ _ _ _ _ _ _ _ _ _)
   | (with_reducible exact ih5 _ _ _ _ _ _ _ _ _ _)
   | (with_reducible exact brazierref17_MayLine.mono _ _ _ _ _ _ _ _)
   | (with_reducible exact brazierref19_lay.mono _ _ _ _ _ _)
   | (with_reducible exact LeO.refl _)
   | (with_reducible exact LeO.none _)
   | (with_reducible refine LeO.ite ?_ ?_)
   | (with_reducible refine LeO.bind ?_ (fun _ => ?_))
   | exact ih0 _ _ _ _ _ _ _ _
   | exact ih1 _ _ _ _ _ _ _ _
   | exact ih2 _ _ _ _ _ _ _ _ _
   | exact ih3 _ _ _ _ _ _ _ _ _ _ _
   | exact ih4 _ _ _ _ _ _ _ _ _ _ _
   | exact ih5 _ _ _ _ _ _ _ _ _ _
   | exact brazierref17_MayLine.mono _ _ _ _ _ _ _ _
   | exact brazierref19_lay.mono _ _ _ _ _ _
   | exact LeO.none _
   | refine LeO.ite ?_ ?_
   | refine LeO.bind ?_ (fun _ => ?_)
  ·intro y0 y1 y2 y3 y4 y5 y6 y7 y8 y9 y10
   unfold brazierref19_Encode.j2
   repeat' first
   | (with_reducible exact ih0 _ _ _ _ _ _ _ _)
   | (with_reducible exact ih1 _ _ _ _ _ _ _ _)
   | (with_reducible exact ih2 _ _ _ _ _ _ _ _ _)
   | (with_reducible exact ih3 _ _ _ _ _ _ _ _ _ _ _)
   | (with_reducible exact ih4 _ _ _ _ _ _ _ _ _ _ _)
   | (with_reducible exact ih5 _ _ _ _ _ _ _ _ _ _)
   | (with_reducible exact brazierref17_MayLine.mono _ _ _ _ _ _ _ _)
   | (with_reducible exact brazierref19_lay.mono _ _ _ _ _ _)
   | (with_reducible exact LeO.refl _)
   | (with_reducible exact LeO.none _)
   | (with_reducible refine LeO.ite ?_ ?_)
   | (with_reducible refine LeO.bind ?_ (fun _ => ?_))
   | exact ih0 _ _ _ _ _ _ _ _
   | exact ih1 _ _ _ _ _ _ _ _
   | exact ih2 _ _ _ _ _ _ _ _ _
   | exact ih3 _ _ _ _ _ _ _ _ _ _ _
   | exact ih4 _ _ _ _ _ _ _ _ _ _ _
   | exact ih5 _ _ _ _ _ _ _ _ _ _
   | exact brazierref17_MayLine.mono _ _ _ _ _ _ _ _
   | exact brazierref19_lay.mono _ _ _ _ _ _
   | exact LeO.none _
   | refine LeO.ite ?_ ?_
   | refine LeO.bind ?_ (fun _ => ?_)
  ·intro y0 y1 y2 y3 y4 y5 y6 y7 y8 y9
   unfold brazierref19_Encode.j3
   repeat' first
   | (with_reducible exact ih0 _ _ _ _ _ _ _ _)
   | (with_reducible exact ih1 _ _ _ _ _ _ _ _)
   | (with_reducible exact ih2 _ _ _ _ _ _ _ _ _)
   | (with_reducible exact ih3 _ _ _ _ _ _ _ _ _ _ _)
   | (with_reducible exact ih4 _ _ _ _ _ _ _ _ _ _ _)
   | (with_reducible exact ih5 _ _ _ _ _ _ _ _ _ _)
   | (with_reducible exact brazierref17_MayLine.mono _ _ _ _ _ _ _ _)
   | (with_reducible exact brazierref19_lay.mono _ _ _ _ _ _)
   | (with_reducible exact LeO.refl _)
   | (with_reducible exact LeO.none _)
   | (with_reducible refine LeO.ite ?_ ?_)
   | (with_reducible refine LeO.bind ?_ (fun _ => ?_))
   | exact ih0 _ _ _ _ _ _ _ _
   | exact ih1 _ _ _ _ _ _ _ _
   | exact ih2 _ _ _ _ _ _ _ _ _
   | exact ih3 _ _ _ _ _ _ _ _ _ _ _
   | exact ih4 _ _ _ _ _ _ _ _ _ _ _
   | exact ih5 _ _ _ _ _ _ _ _ _ _
   | exact brazierref17_MayLine.mono _ _ _ _ _ _ _ _
   | exact brazierref19_lay.mono _ _ _ _ _ _
   | exact LeO.none _
   | refine LeO.ite ?_ ?_
   | refine LeO.bind ?_ (fun _ => ?_)
theorem brazierref19_Encode.mono : ∀ a0 a1 a2 a3 a4 a5 a6 k, LeO (brazierref19_Encode.f k a0 a1 a2 a3 a4 a5 a6) (brazierref19_Encode.f (k + 1) a0 a1 a2 a3 a4 a5 a6) := by
 intro a0 a1 a2 a3 a4 a5 a6 k
 obtain ⟨ih0, ih1, ih2, ih3, ih4, ih5⟩ := brazierref19_Encode.mono_l k
 unfold brazierref19_Encode.f
 repeat' first
   | (with_reducible exact ih0 _ _ _ _ _ _ _ _)
   | (with_reducible exact ih1 _ _ _ _ _ _ _ _)
   | (with_reducible exact ih2 _ _ _ _ _ _ _ _ _)
   | (with_reducible exact ih3 _ _ _ _ _ _ _ _ _ _ _)
   | (with_reducible exact ih4 _ _ _ _ _ _ _ _ _ _ _)
   | (with_reducible exact ih5 _ _ _ _ _ _ _ _ _ _)
   | (with_reducible exact brazierref17_MayLine.mono _ _ _ _ _ _ _ _)
   | (with_reducible exact brazierref19_lay.mono _ _ _ _ _ _)
   | (with_reducible exact LeO.refl _)
   | (with_reducible exact LeO.none _)
   | (with_reducible refine LeO.ite ?_ ?_)
   | (with_reducible refine LeO.bind ?_ (fun _ => ?_))
   | exact ih0 _ _ _ _ _ _ _ _
   | exact ih1 _ _ _ _ _ _ _ _
   | exact ih2 _ _ _ _ _ _ _ _ _
   | exact ih3 _ _ _ _ _ _ _ _ _ _ _
   | exact ih4 _ _ _ _ _ _ _ _ _ _ _
   | exact ih5 _ _ _ _ _ _ _ _ _ _
   | exact brazierref17_MayLine.mono _ _ _ _ _ _ _ _
   | exact brazierref19_lay.mono _ _ _ _ _ _
   | exact LeO.none _
   | refine LeO.ite ?_ ?_
   | refine LeO.bind ?_ (fun _ => ?_)
set_option maxHeartbeats 60000000 in
set_option maxRecDepth 100000 in
theorem brazierref19_Encode.calls (k : Nat) (a0_0 : Int) (a0_1 : Int) (a0_2 : Int) (a0_3 : Int) (a0_4 : Int) (a0_5 : Int) (a0_6 : ByteArray) (r1 : Int) (r2 : Bool) (w : World) (h : brazierref19_Encode.f k a0_0 a0_1 a0_2 a0_3 a0_4 a0_5 a0_6 = some (r1, r2)) :
  Calls Try.prog 9 #[.agg #[.int .i64 a0_0, .int .i64 a0_1, .int .i64 a0_2, .int .i64 a0_3, .int .i64 a0_4, .int .i32 a0_5, .string a0_6]] w fun e w' => e = .returned (.tuple #[.int .u32 r1, .bool r2]) ∧ Below w.heap.size w w' := by
 have hu23 := Try.underlying23
 have HB := Aside0.mk (Below.refl w.heap.size w)
 have H : (if a0_0 = 2 then (if a0_6.toList = ([] : List UInt8) then ((brazierref17_MayLine.f k a0_0 a0_1 a0_2 a0_3 a0_4 a0_5 a0_6).bind fun t154 => (brazierref19_Encode.j0 k (!t154) a0_0 a0_1 a0_2 a0_3 a0_4 a0_5 a0_6)) else (brazierref19_Encode.j0 k true a0_0 a0_1 a0_2 a0_3 a0_4 a0_5 a0_6)) else (brazierref19_Encode.j0 k true a0_0 a0_1 a0_2 a0_3 a0_4 a0_5 a0_6)) = some (r1, r2) := h
 clear h
 have HC2 := Aside0.mk H
 clear H
 go_enter Try.func9, Try.ntmps9
 go_upto_region 1 with (((with_reducible refine gate_dst (N := 1) rfl ?_); refine box_event ?hg (N := 1) ?hd (cs := #[.int .i64 a0_0, .int .i64 a0_1, .int .i64 a0_2, .int .i64 a0_3, .int .i64 a0_4, .int .i32 a0_5, .string a0_6]) (t := 23) ?hr ?_; (case hd => rfl); (case hg => rfl); (case hr => (go_simp; done)); intro gb153 hg w3 hbox hb; have n0_ := Aside0.mk (below_step (by repeat ((with_reducible exact HB.out))) hb); have n1_ := Aside0.mk (hbox); have n2_ := Aside0.mk ((by rw [hg]; exact (below_size (by repeat ((with_reducible exact HB.out)))) : w.heap.size ≤ gb153)); have n3_ := Aside0.mk ((by rw [hg]; exact (below_size (by repeat ((with_reducible exact HB.out)))) : w.heap.size ≤ gb153)); clear HB; have HB := n0_; have BK153 := n1_; have GW153 := n2_; have GE153 := n3_; clear n0_ n1_ n2_ n3_; clear hb hbox hg))
 go_cut [20] (fun v20 wc => ∃ (kq : Nat) (x20_1 : Bool), v20 = .bool x20_1 ∧ Aside0 (brazierref19_Encode.j0 kq x20_1 a0_0 a0_1 a0_2 a0_3 a0_4 a0_5 a0_6 = some (r1, r2)) ∧ Aside0 (kq ≤ k) ∧ Aside0 (wc.heap[gb153]? = some (.cells #[.int .i64 a0_0, .int .i64 a0_1, .int .i64 a0_2, .int .i64 a0_3, .int .i64 a0_4, .int .i32 a0_5, .string a0_6] 23 (0, 0))) ∧ Aside0 (Below w.heap.size w wc))
 case first =>
  have H := HC2.out
  clear HC2
  by_cases c4 : a0_0 = 2
  ·rw [if_pos c4] at H
   have c4b0 : (a0_0 == 2) = true := beq_iff_eq.mpr c4
   have c4b1 : (a0_0 != 2) = false := bne_eq_false_iff_eq.mpr c4
   clear c4
   by_cases c5 : a0_6.toList = ([] : List UInt8)
   ·rw [if_pos c5] at H
    have c5b0 : (a0_6.toList == ([] : List UInt8)) = true := beq_iff_eq.mpr c5
    have c5b1 : (a0_6.toList != ([] : List UInt8)) = false := bne_eq_false_iff_eq.mpr c5
    clear c5
    replace H := Option.bind_eq_some_iff.mp H
    obtain ⟨t154, A60, H⟩ := H
    replace H : (brazierref19_Encode.j0 k (!t154) a0_0 a0_1 a0_2 a0_3 a0_4 a0_5 a0_6) = some (r1, r2) := H
    have A6 := Aside0.mk A60
    clear A60
    have H' := Aside0.mk H
    clear H
    have hcz7_0 : w3.cell? ⟨gb153, 0, none⟩ = some (.int .i64 a0_0) := (blk_cell BK153.out 0).trans rfl
    have hcz7_1 : w3.cell? ⟨gb153, 1, none⟩ = some (.int .i64 a0_1) := (blk_cell BK153.out 1).trans rfl
    have hcz7_2 : w3.cell? ⟨gb153, 2, none⟩ = some (.int .i64 a0_2) := (blk_cell BK153.out 2).trans rfl
    have hcz7_3 : w3.cell? ⟨gb153, 3, none⟩ = some (.int .i64 a0_3) := (blk_cell BK153.out 3).trans rfl
    have hcz7_4 : w3.cell? ⟨gb153, 4, none⟩ = some (.int .i64 a0_4) := (blk_cell BK153.out 4).trans rfl
    have hcz7_5 : w3.cell? ⟨gb153, 5, none⟩ = some (.int .i32 a0_5) := (blk_cell BK153.out 5).trans rfl
    have hcz7_6 : w3.cell? ⟨gb153, 6, none⟩ = some (.string a0_6) := (blk_cell BK153.out 6).trans rfl
    have hfz7_0 := blk_frozen BK153.out 0
    have hfz7_1 := blk_frozen BK153.out 1
    have hfz7_2 := blk_frozen BK153.out 2
    have hfz7_3 := blk_frozen BK153.out 3
    have hfz7_4 := blk_frozen BK153.out 4
    have hfz7_5 := blk_frozen BK153.out 5
    have hfz7_6 := blk_frozen BK153.out 6
    go_wp2_with ((go_at_call 11; (with_reducible refine (brazierref17_MayLine.calls k a0_0 a0_1 a0_2 a0_3 a0_4 a0_5 a0_6 t154 _ A6.out).mono ?_); rintro e w8 ⟨rfl, hb⟩; have n0_ := Aside0.mk (blk_below (g := gb153) (o := .cells #[.int .i64 a0_0, .int .i64 a0_1, .int .i64 a0_2, .int .i64 a0_3, .int .i64 a0_4, .int .i32 a0_5, .string a0_6] 23 (0, 0)) (by (with_reducible repeat (fail)); exact BK153.out) hb); have n1_ := Aside0.mk (below_step (by repeat ((with_reducible exact HB.out))) hb); clear BK153; clear HB; have BK153 := n0_; have HB := n1_; clear n0_ n1_; (try clear hb)))
    go_meet
    case rel => exact ⟨_, (!t154), (by rfl), H', ⟨by omega⟩, ⟨by (with_reducible repeat (fail)); exact BK153.out⟩, ⟨by repeat ((with_reducible exact HB.out))⟩⟩
   ·rw [if_neg c5] at H
    have c5b0 : (a0_6.toList == ([] : List UInt8)) = false := beq_eq_false_iff_ne.mpr c5
    have c5b1 : (a0_6.toList != ([] : List UInt8)) = true := bne_iff_ne.mpr c5
    have H' := Aside0.mk H
    clear H
    have hcz9_0 : w3.cell? ⟨gb153, 0, none⟩ = some (.int .i64 a0_0) := (blk_cell BK153.out 0).trans rfl
    have hcz9_1 : w3.cell? ⟨gb153, 1, none⟩ = some (.int .i64 a0_1) := (blk_cell BK153.out 1).trans rfl
    have hcz9_2 : w3.cell? ⟨gb153, 2, none⟩ = some (.int .i64 a0_2) := (blk_cell BK153.out 2).trans rfl
    have hcz9_3 : w3.cell? ⟨gb153, 3, none⟩ = some (.int .i64 a0_3) := (blk_cell BK153.out 3).trans rfl
    have hcz9_4 : w3.cell? ⟨gb153, 4, none⟩ = some (.int .i64 a0_4) := (blk_cell BK153.out 4).trans rfl
    have hcz9_5 : w3.cell? ⟨gb153, 5, none⟩ = some (.int .i32 a0_5) := (blk_cell BK153.out 5).trans rfl
    have hcz9_6 : w3.cell? ⟨gb153, 6, none⟩ = some (.string a0_6) := (blk_cell BK153.out 6).trans rfl
    have hfz9_0 := blk_frozen BK153.out 0
    have hfz9_1 := blk_frozen BK153.out 1
    have hfz9_2 := blk_frozen BK153.out 2
    have hfz9_3 := blk_frozen BK153.out 3
    have hfz9_4 := blk_frozen BK153.out 4
    have hfz9_5 := blk_frozen BK153.out 5
    have hfz9_6 := blk_frozen BK153.out 6
    go_wp2
    go_meet
    case rel => exact ⟨_, (true), (by rfl), H', ⟨by omega⟩, ⟨by (with_reducible repeat (fail)); exact BK153.out⟩, ⟨by repeat ((with_reducible exact HB.out))⟩⟩
  ·rw [if_neg c4] at H
   have c4b0 : (a0_0 == 2) = false := beq_eq_false_iff_ne.mpr c4
   have c4b1 : (a0_0 != 2) = true := bne_iff_ne.mpr c4
   have H' := Aside0.mk H
   clear H
   have hcz10_0 : w3.cell? ⟨gb153, 0, none⟩ = some (.int .i64 a0_0) := (blk_cell BK153.out 0).trans rfl
   have hcz10_1 : w3.cell? ⟨gb153, 1, none⟩ = some (.int .i64 a0_1) := (blk_cell BK153.out 1).trans rfl
   have hcz10_2 : w3.cell? ⟨gb153, 2, none⟩ = some (.int .i64 a0_2) := (blk_cell BK153.out 2).trans rfl
   have hcz10_3 : w3.cell? ⟨gb153, 3, none⟩ = some (.int .i64 a0_3) := (blk_cell BK153.out 3).trans rfl
   have hcz10_4 : w3.cell? ⟨gb153, 4, none⟩ = some (.int .i64 a0_4) := (blk_cell BK153.out 4).trans rfl
   have hcz10_5 : w3.cell? ⟨gb153, 5, none⟩ = some (.int .i32 a0_5) := (blk_cell BK153.out 5).trans rfl
   have hcz10_6 : w3.cell? ⟨gb153, 6, none⟩ = some (.string a0_6) := (blk_cell BK153.out 6).trans rfl
   have hfz10_0 := blk_frozen BK153.out 0
   have hfz10_1 := blk_frozen BK153.out 1
   have hfz10_2 := blk_frozen BK153.out 2
   have hfz10_3 := blk_frozen BK153.out 3
   have hfz10_4 := blk_frozen BK153.out 4
   have hfz10_5 := blk_frozen BK153.out 5
   have hfz10_6 := blk_frozen BK153.out 6
   go_wp2
   go_meet
   case rel => exact ⟨_, (true), (by rfl), H', ⟨by omega⟩, ⟨by (with_reducible repeat (fail)); exact BK153.out⟩, ⟨by repeat ((with_reducible exact HB.out))⟩⟩
 case rest =>
  clear HC2
  obtain ⟨kq, x20_1, rfl, HA, HJ1, BK153, HB⟩ := hcut
  cases kq with
  | zero => exact absurd HA.out (by simp [brazierref19_Encode.j0])
  | succ kj1 =>
   have H := HA.out
   clear HA
   simp only [brazierref19_Encode.j0] at H
   by_cases c11 : x20_1 = true
   ·subst c11
    have H1 : (some (0, false)) = some (r1, r2) := by rw [if_pos rfl] at H; exact H
    clear H
    have H := H1
    clear H1
    simp only [Option.some.injEq, Prod.mk.injEq] at H
    obtain ⟨rfl, rfl⟩ := H
    go_wp2
    go_ret2
    exact ⟨by rfl, by repeat ((with_reducible exact HB.out))⟩
   ·replace c11 := Bool.eq_false_iff.mpr c11
    subst c11
    have H1 : ((some (([0, 55, 19, 19, 19, 19, 19, 19, 19, 19, 19, 51, 51, 51, 51, 51, 51, 51, 51, 51, 51, 51, 51, 51, 3, 35, 99, 99, 111, 103, 115] : List Int) : List Int)).bind fun y155 => ((some (([0, 0, 0, 2, 3, 4, 6, 7, 1, 5, 5, 0, 0, 1, 2, 3, 4, 5, 5, 6, 7, 0, 4, 6, 2, 2, 0, 1, 0, 0, 0] : List Int) : List Int)).bind fun y158 => (if 0 ≤ a0_1 then (if a0_1 < (y155.length : Int) then (if a0_1 < (y158.length : Int) then ((brazierref19_lay.f kj1 (((rd y155 a0_1) + ((rd y158 a0_1) * 4096)) % 4294967296) a0_2 0 5 7).bind fun t163 => ((brazierref19_lay.f kj1 t163 a0_3 0 5 15).bind fun t164 => ((brazierref19_lay.f kj1 t164 a0_4 0 5 20).bind fun t165 => (if a0_1 = 1 then ((brazierref19_lay.f kj1 t165 (wrap64 (a0_5)) 0 20 12).bind fun t166 => (brazierref19_Encode.j4 kj1 t166 a0_0 a0_1 a0_2 a0_3 a0_4 a0_5 a0_6)) else (if a0_1 = 28 then ((brazierref19_lay.f kj1 t165 (wrap64 (a0_5)) 1 10 21).bind fun t167 => ((brazierref19_lay.f kj1 t167 (wrap64 (a0_5)) 11 1 20).bind fun t168 => ((brazierref19_lay.f kj1 t168 (wrap64 (a0_5)) 12 8 12).bind fun t169 => ((brazierref19_lay.f kj1 t169 (wrap64 (a0_5)) 20 1 31).bind fun t170 => (brazierref19_Encode.j4 kj1 t170 a0_0 a0_1 a0_2 a0_3 a0_4 a0_5 a0_6))))) else (if a0_1 = 2 then (brazierref19_Encode.j1 kj1 t165 (wrap64 (a0_5)) a0_1 (a0_1 == 2) a0_0 a0_1 a0_2 a0_3 a0_4 a0_5 a0_6) else (if a0_1 = 3 then (brazierref19_Encode.j1 kj1 t165 (wrap64 (a0_5)) a0_1 (a0_1 == 3) a0_0 a0_1 a0_2 a0_3 a0_4 a0_5 a0_6) else (if a0_1 = 4 then (brazierref19_Encode.j1 kj1 t165 (wrap64 (a0_5)) a0_1 (a0_1 == 4) a0_0 a0_1 a0_2 a0_3 a0_4 a0_5 a0_6) else (if a0_1 = 5 then (brazierref19_Encode.j1 kj1 t165 (wrap64 (a0_5)) a0_1 (a0_1 == 5) a0_0 a0_1 a0_2 a0_3 a0_4 a0_5 a0_6) else (if a0_1 = 6 then (brazierref19_Encode.j1 kj1 t165 (wrap64 (a0_5)) a0_1 (a0_1 == 6) a0_0 a0_1 a0_2 a0_3 a0_4 a0_5 a0_6) else (if a0_1 = 7 then (brazierref19_Encode.j1 kj1 t165 (wrap64 (a0_5)) a0_1 (a0_1 == 7) a0_0 a0_1 a0_2 a0_3 a0_4 a0_5 a0_6) else (if a0_1 = 24 then (brazierref19_Encode.j1 kj1 t165 (wrap64 (a0_5)) a0_1 (a0_1 == 24) a0_0 a0_1 a0_2 a0_3 a0_4 a0_5 a0_6) else (brazierref19_Encode.j1 kj1 t165 (wrap64 (a0_5)) a0_1 (a0_1 == 29) a0_0 a0_1 a0_2 a0_3 a0_4 a0_5 a0_6))))))))))))) else (none)) else (none)) else (none)))) = some (r1, r2) := by rw [if_neg (show ¬ (false = true) by decide)] at H; exact H
    clear H
    have H := H1
    clear H1
    obtain ⟨y155, hy155⟩ : ∃ y_ : List Int, y_ = (([0, 55, 19, 19, 19, 19, 19, 19, 19, 19, 19, 51, 51, 51, 51, 51, 51, 51, 51, 51, 51, 51, 51, 51, 3, 35, 99, 99, 111, 103, 115] : List Int)) := ⟨_, rfl⟩
    replace H : ((some (([0, 0, 0, 2, 3, 4, 6, 7, 1, 5, 5, 0, 0, 1, 2, 3, 4, 5, 5, 6, 7, 0, 4, 6, 2, 2, 0, 1, 0, 0, 0] : List Int) : List Int)).bind fun y158 => (if 0 ≤ a0_1 then (if a0_1 < (y155.length : Int) then (if a0_1 < (y158.length : Int) then ((brazierref19_lay.f kj1 (((rd y155 a0_1) + ((rd y158 a0_1) * 4096)) % 4294967296) a0_2 0 5 7).bind fun t163 => ((brazierref19_lay.f kj1 t163 a0_3 0 5 15).bind fun t164 => ((brazierref19_lay.f kj1 t164 a0_4 0 5 20).bind fun t165 => (if a0_1 = 1 then ((brazierref19_lay.f kj1 t165 (wrap64 (a0_5)) 0 20 12).bind fun t166 => (brazierref19_Encode.j4 kj1 t166 a0_0 a0_1 a0_2 a0_3 a0_4 a0_5 a0_6)) else (if a0_1 = 28 then ((brazierref19_lay.f kj1 t165 (wrap64 (a0_5)) 1 10 21).bind fun t167 => ((brazierref19_lay.f kj1 t167 (wrap64 (a0_5)) 11 1 20).bind fun t168 => ((brazierref19_lay.f kj1 t168 (wrap64 (a0_5)) 12 8 12).bind fun t169 => ((brazierref19_lay.f kj1 t169 (wrap64 (a0_5)) 20 1 31).bind fun t170 => (brazierref19_Encode.j4 kj1 t170 a0_0 a0_1 a0_2 a0_3 a0_4 a0_5 a0_6))))) else (if a0_1 = 2 then (brazierref19_Encode.j1 kj1 t165 (wrap64 (a0_5)) a0_1 (a0_1 == 2) a0_0 a0_1 a0_2 a0_3 a0_4 a0_5 a0_6) else (if a0_1 = 3 then (brazierref19_Encode.j1 kj1 t165 (wrap64 (a0_5)) a0_1 (a0_1 == 3) a0_0 a0_1 a0_2 a0_3 a0_4 a0_5 a0_6) else (if a0_1 = 4 then (brazierref19_Encode.j1 kj1 t165 (wrap64 (a0_5)) a0_1 (a0_1 == 4) a0_0 a0_1 a0_2 a0_3 a0_4 a0_5 a0_6) else (if a0_1 = 5 then (brazierref19_Encode.j1 kj1 t165 (wrap64 (a0_5)) a0_1 (a0_1 == 5) a0_0 a0_1 a0_2 a0_3 a0_4 a0_5 a0_6) else (if a0_1 = 6 then (brazierref19_Encode.j1 kj1 t165 (wrap64 (a0_5)) a0_1 (a0_1 == 6) a0_0 a0_1 a0_2 a0_3 a0_4 a0_5 a0_6) else (if a0_1 = 7 then (brazierref19_Encode.j1 kj1 t165 (wrap64 (a0_5)) a0_1 (a0_1 == 7) a0_0 a0_1 a0_2 a0_3 a0_4 a0_5 a0_6) else (if a0_1 = 24 then (brazierref19_Encode.j1 kj1 t165 (wrap64 (a0_5)) a0_1 (a0_1 == 24) a0_0 a0_1 a0_2 a0_3 a0_4 a0_5 a0_6) else (brazierref19_Encode.j1 kj1 t165 (wrap64 (a0_5)) a0_1 (a0_1 == 29) a0_0 a0_1 a0_2 a0_3 a0_4 a0_5 a0_6))))))))))))) else (none)) else (none)) else (none))) = some (r1, r2) := by (have H2_ := (Option.bind_some _ _).symm.trans H; rw [hy155]; with_reducible exact H2_)
    have Ny155 := Aside0.mk hy155
    clear hy155
    obtain ⟨y158, hy158⟩ : ∃ y_ : List Int, y_ = (([0, 0, 0, 2, 3, 4, 6, 7, 1, 5, 5, 0, 0, 1, 2, 3, 4, 5, 5, 6, 7, 0, 4, 6, 2, 2, 0, 1, 0, 0, 0] : List Int)) := ⟨_, rfl⟩
    replace H : (if 0 ≤ a0_1 then (if a0_1 < (y155.length : Int) then (if a0_1 < (y158.length : Int) then ((brazierref19_lay.f kj1 (((rd y155 a0_1) + ((rd y158 a0_1) * 4096)) % 4294967296) a0_2 0 5 7).bind fun t163 => ((brazierref19_lay.f kj1 t163 a0_3 0 5 15).bind fun t164 => ((brazierref19_lay.f kj1 t164 a0_4 0 5 20).bind fun t165 => (if a0_1 = 1 then ((brazierref19_lay.f kj1 t165 (wrap64 (a0_5)) 0 20 12).bind fun t166 => (brazierref19_Encode.j4 kj1 t166 a0_0 a0_1 a0_2 a0_3 a0_4 a0_5 a0_6)) else (if a0_1 = 28 then ((brazierref19_lay.f kj1 t165 (wrap64 (a0_5)) 1 10 21).bind fun t167 => ((brazierref19_lay.f kj1 t167 (wrap64 (a0_5)) 11 1 20).bind fun t168 => ((brazierref19_lay.f kj1 t168 (wrap64 (a0_5)) 12 8 12).bind fun t169 => ((brazierref19_lay.f kj1 t169 (wrap64 (a0_5)) 20 1 31).bind fun t170 => (brazierref19_Encode.j4 kj1 t170 a0_0 a0_1 a0_2 a0_3 a0_4 a0_5 a0_6))))) else (if a0_1 = 2 then (brazierref19_Encode.j1 kj1 t165 (wrap64 (a0_5)) a0_1 (a0_1 == 2) a0_0 a0_1 a0_2 a0_3 a0_4 a0_5 a0_6) else (if a0_1 = 3 then (brazierref19_Encode.j1 kj1 t165 (wrap64 (a0_5)) a0_1 (a0_1 == 3) a0_0 a0_1 a0_2 a0_3 a0_4 a0_5 a0_6) else (if a0_1 = 4 then (brazierref19_Encode.j1 kj1 t165 (wrap64 (a0_5)) a0_1 (a0_1 == 4) a0_0 a0_1 a0_2 a0_3 a0_4 a0_5 a0_6) else (if a0_1 = 5 then (brazierref19_Encode.j1 kj1 t165 (wrap64 (a0_5)) a0_1 (a0_1 == 5) a0_0 a0_1 a0_2 a0_3 a0_4 a0_5 a0_6) else (if a0_1 = 6 then (brazierref19_Encode.j1 kj1 t165 (wrap64 (a0_5)) a0_1 (a0_1 == 6) a0_0 a0_1 a0_2 a0_3 a0_4 a0_5 a0_6) else (if a0_1 = 7 then (brazierref19_Encode.j1 kj1 t165 (wrap64 (a0_5)) a0_1 (a0_1 == 7) a0_0 a0_1 a0_2 a0_3 a0_4 a0_5 a0_6) else (if a0_1 = 24 then (brazierref19_Encode.j1 kj1 t165 (wrap64 (a0_5)) a0_1 (a0_1 == 24) a0_0 a0_1 a0_2 a0_3 a0_4 a0_5 a0_6) else (brazierref19_Encode.j1 kj1 t165 (wrap64 (a0_5)) a0_1 (a0_1 == 29) a0_0 a0_1 a0_2 a0_3 a0_4 a0_5 a0_6))))))))))))) else (none)) else (none)) else (none)) = some (r1, r2) := by (have H2_ := (Option.bind_some _ _).symm.trans H; rw [hy158]; with_reducible exact H2_)
    have Ny158 := Aside0.mk hy158
    clear hy158
    by_cases c12 : 0 ≤ a0_1
    ·rw [if_pos c12] at H
     have c12b0 : decide (0 ≤ a0_1) = true := decide_eq_true c12
     clear c12
     by_cases c13 : a0_1 < (y155.length : Int)
     ·rw [if_pos c13] at H
      have c13b0 : decide (a0_1 < (y155.length : Int)) = true := decide_eq_true c13
      clear c13
      by_cases c14 : a0_1 < (y158.length : Int)
      ·rw [if_pos c14] at H
       have c14b0 : decide (a0_1 < (y158.length : Int)) = true := decide_eq_true c14
       clear c14
       replace H := Option.bind_eq_some_iff.mp H
       obtain ⟨t163, A150, H⟩ := H
       replace H : ((brazierref19_lay.f kj1 t163 a0_3 0 5 15).bind fun t164 => ((brazierref19_lay.f kj1 t164 a0_4 0 5 20).bind fun t165 => (if a0_1 = 1 then ((brazierref19_lay.f kj1 t165 (wrap64 (a0_5)) 0 20 12).bind fun t166 => (brazierref19_Encode.j4 kj1 t166 a0_0 a0_1 a0_2 a0_3 a0_4 a0_5 a0_6)) else (if a0_1 = 28 then ((brazierref19_lay.f kj1 t165 (wrap64 (a0_5)) 1 10 21).bind fun t167 => ((brazierref19_lay.f kj1 t167 (wrap64 (a0_5)) 11 1 20).bind fun t168 => ((brazierref19_lay.f kj1 t168 (wrap64 (a0_5)) 12 8 12).bind fun t169 => ((brazierref19_lay.f kj1 t169 (wrap64 (a0_5)) 20 1 31).bind fun t170 => (brazierref19_Encode.j4 kj1 t170 a0_0 a0_1 a0_2 a0_3 a0_4 a0_5 a0_6))))) else (if a0_1 = 2 then (brazierref19_Encode.j1 kj1 t165 (wrap64 (a0_5)) a0_1 (a0_1 == 2) a0_0 a0_1 a0_2 a0_3 a0_4 a0_5 a0_6) else (if a0_1 = 3 then (brazierref19_Encode.j1 kj1 t165 (wrap64 (a0_5)) a0_1 (a0_1 == 3) a0_0 a0_1 a0_2 a0_3 a0_4 a0_5 a0_6) else (if a0_1 = 4 then (brazierref19_Encode.j1 kj1 t165 (wrap64 (a0_5)) a0_1 (a0_1 == 4) a0_0 a0_1 a0_2 a0_3 a0_4 a0_5 a0_6) else (if a0_1 = 5 then (brazierref19_Encode.j1 kj1 t165 (wrap64 (a0_5)) a0_1 (a0_1 == 5) a0_0 a0_1 a0_2 a0_3 a0_4 a0_5 a0_6) else (if a0_1 = 6 then (brazierref19_Encode.j1 kj1 t165 (wrap64 (a0_5)) a0_1 (a0_1 == 6) a0_0 a0_1 a0_2 a0_3 a0_4 a0_5 a0_6) else (if a0_1 = 7 then (brazierref19_Encode.j1 kj1 t165 (wrap64 (a0_5)) a0_1 (a0_1 == 7) a0_0 a0_1 a0_2 a0_3 a0_4 a0_5 a0_6) else (if a0_1 = 24 then (brazierref19_Encode.j1 kj1 t165 (wrap64 (a0_5)) a0_1 (a0_1 == 24) a0_0 a0_1 a0_2 a0_3 a0_4 a0_5 a0_6) else (brazierref19_Encode.j1 kj1 t165 (wrap64 (a0_5)) a0_1 (a0_1 == 29) a0_0 a0_1 a0_2 a0_3 a0_4 a0_5 a0_6)))))))))))) = some (r1, r2) := H
       have A15 := Aside0.mk A150
       clear A150
       replace H := Option.bind_eq_some_iff.mp H
       obtain ⟨t164, A160, H⟩ := H
       replace H : ((brazierref19_lay.f kj1 t164 a0_4 0 5 20).bind fun t165 => (if a0_1 = 1 then ((brazierref19_lay.f kj1 t165 (wrap64 (a0_5)) 0 20 12).bind fun t166 => (brazierref19_Encode.j4 kj1 t166 a0_0 a0_1 a0_2 a0_3 a0_4 a0_5 a0_6)) else (if a0_1 = 28 then ((brazierref19_lay.f kj1 t165 (wrap64 (a0_5)) 1 10 21).bind fun t167 => ((brazierref19_lay.f kj1 t167 (wrap64 (a0_5)) 11 1 20).bind fun t168 => ((brazierref19_lay.f kj1 t168 (wrap64 (a0_5)) 12 8 12).bind fun t169 => ((brazierref19_lay.f kj1 t169 (wrap64 (a0_5)) 20 1 31).bind fun t170 => (brazierref19_Encode.j4 kj1 t170 a0_0 a0_1 a0_2 a0_3 a0_4 a0_5 a0_6))))) else (if a0_1 = 2 then (brazierref19_Encode.j1 kj1 t165 (wrap64 (a0_5)) a0_1 (a0_1 == 2) a0_0 a0_1 a0_2 a0_3 a0_4 a0_5 a0_6) else (if a0_1 = 3 then (brazierref19_Encode.j1 kj1 t165 (wrap64 (a0_5)) a0_1 (a0_1 == 3) a0_0 a0_1 a0_2 a0_3 a0_4 a0_5 a0_6) else (if a0_1 = 4 then (brazierref19_Encode.j1 kj1 t165 (wrap64 (a0_5)) a0_1 (a0_1 == 4) a0_0 a0_1 a0_2 a0_3 a0_4 a0_5 a0_6) else (if a0_1 = 5 then (brazierref19_Encode.j1 kj1 t165 (wrap64 (a0_5)) a0_1 (a0_1 == 5) a0_0 a0_1 a0_2 a0_3 a0_4 a0_5 a0_6) else (if a0_1 = 6 then (brazierref19_Encode.j1 kj1 t165 (wrap64 (a0_5)) a0_1 (a0_1 == 6) a0_0 a0_1 a0_2 a0_3 a0_4 a0_5 a0_6) else (if a0_1 = 7 then (brazierref19_Encode.j1 kj1 t165 (wrap64 (a0_5)) a0_1 (a0_1 == 7) a0_0 a0_1 a0_2 a0_3 a0_4 a0_5 a0_6) else (if a0_1 = 24 then (brazierref19_Encode.j1 kj1 t165 (wrap64 (a0_5)) a0_1 (a0_1 == 24) a0_0 a0_1 a0_2 a0_3 a0_4 a0_5 a0_6) else (brazierref19_Encode.j1 kj1 t165 (wrap64 (a0_5)) a0_1 (a0_1 == 29) a0_0 a0_1 a0_2 a0_3 a0_4 a0_5 a0_6))))))))))) = some (r1, r2) := H
       have A16 := Aside0.mk A160
       clear A160
       replace H := Option.bind_eq_some_iff.mp H
       obtain ⟨t165, A170, H⟩ := H
       replace H : (if a0_1 = 1 then ((brazierref19_lay.f kj1 t165 (wrap64 (a0_5)) 0 20 12).bind fun t166 => (brazierref19_Encode.j4 kj1 t166 a0_0 a0_1 a0_2 a0_3 a0_4 a0_5 a0_6)) else (if a0_1 = 28 then ((brazierref19_lay.f kj1 t165 (wrap64 (a0_5)) 1 10 21).bind fun t167 => ((brazierref19_lay.f kj1 t167 (wrap64 (a0_5)) 11 1 20).bind fun t168 => ((brazierref19_lay.f kj1 t168 (wrap64 (a0_5)) 12 8 12).bind fun t169 => ((brazierref19_lay.f kj1 t169 (wrap64 (a0_5)) 20 1 31).bind fun t170 => (brazierref19_Encode.j4 kj1 t170 a0_0 a0_1 a0_2 a0_3 a0_4 a0_5 a0_6))))) else (if a0_1 = 2 then (brazierref19_Encode.j1 kj1 t165 (wrap64 (a0_5)) a0_1 (a0_1 == 2) a0_0 a0_1 a0_2 a0_3 a0_4 a0_5 a0_6) else (if a0_1 = 3 then (brazierref19_Encode.j1 kj1 t165 (wrap64 (a0_5)) a0_1 (a0_1 == 3) a0_0 a0_1 a0_2 a0_3 a0_4 a0_5 a0_6) else (if a0_1 = 4 then (brazierref19_Encode.j1 kj1 t165 (wrap64 (a0_5)) a0_1 (a0_1 == 4) a0_0 a0_1 a0_2 a0_3 a0_4 a0_5 a0_6) else (if a0_1 = 5 then (brazierref19_Encode.j1 kj1 t165 (wrap64 (a0_5)) a0_1 (a0_1 == 5) a0_0 a0_1 a0_2 a0_3 a0_4 a0_5 a0_6) else (if a0_1 = 6 then (brazierref19_Encode.j1 kj1 t165 (wrap64 (a0_5)) a0_1 (a0_1 == 6) a0_0 a0_1 a0_2 a0_3 a0_4 a0_5 a0_6) else (if a0_1 = 7 then (brazierref19_Encode.j1 kj1 t165 (wrap64 (a0_5)) a0_1 (a0_1 == 7) a0_0 a0_1 a0_2 a0_3 a0_4 a0_5 a0_6) else (if a0_1 = 24 then (brazierref19_Encode.j1 kj1 t165 (wrap64 (a0_5)) a0_1 (a0_1 == 24) a0_0 a0_1 a0_2 a0_3 a0_4 a0_5 a0_6) else (brazierref19_Encode.j1 kj1 t165 (wrap64 (a0_5)) a0_1 (a0_1 == 29) a0_0 a0_1 a0_2 a0_3 a0_4 a0_5 a0_6)))))))))) = some (r1, r2) := H
       have A17 := Aside0.mk A170
       clear A170
       have HC18 := Aside0.mk H
       clear H
       go_upto_block 0 with (first | ((with_reducible refine gate_dst (N := 21) rfl ?_); refine Kd.R_lit (Kd.int .u32) _ 25 ?hg (N := 21) ?hd (xs := ([0, 55, 19, 19, 19, 19, 19, 19, 19, 19, 19, 51, 51, 51, 51, 51, 51, 51, 51, 51, 51, 51, 51, 51, 3, 35, 99, 99, 111, 103, 115] : List Int)) (inner := [.int .u32 0, .int .u32 55, .int .u32 19, .int .u32 19, .int .u32 19, .int .u32 19, .int .u32 19, .int .u32 19, .int .u32 19, .int .u32 19, .int .u32 19, .int .u32 51, .int .u32 51, .int .u32 51, .int .u32 51, .int .u32 51, .int .u32 51, .int .u32 51, .int .u32 51, .int .u32 51, .int .u32 51, .int .u32 51, .int .u32 51, .int .u32 51, .int .u32 3, .int .u32 35, .int .u32 99, .int .u32 99, .int .u32 111, .int .u32 103, .int .u32 115]) (ok := fun _ => True) (okp := fun _ => True) ?hr ?hp (fun _ hk => hk) trivial (Below.refl _ _) (Nat.le_refl _) (by simp) ?_; (case hd => rfl); (case hg => rfl); (case hr => (go_simp; done)); (case hp => exact (Reps.one (show Kd.M (Kd.int .u32) _ _ _ 0 [.int .u32 0] from rfl) (Reps.one (show Kd.M (Kd.int .u32) _ _ _ 55 [.int .u32 55] from rfl) (Reps.one (show Kd.M (Kd.int .u32) _ _ _ 19 [.int .u32 19] from rfl) (Reps.one (show Kd.M (Kd.int .u32) _ _ _ 19 [.int .u32 19] from rfl) (Reps.one (show Kd.M (Kd.int .u32) _ _ _ 19 [.int .u32 19] from rfl) (Reps.one (show Kd.M (Kd.int .u32) _ _ _ 19 [.int .u32 19] from rfl) (Reps.one (show Kd.M (Kd.int .u32) _ _ _ 19 [.int .u32 19] from rfl) (Reps.one (show Kd.M (Kd.int .u32) _ _ _ 19 [.int .u32 19] from rfl) (Reps.one (show Kd.M (Kd.int .u32) _ _ _ 19 [.int .u32 19] from rfl) (Reps.one (show Kd.M (Kd.int .u32) _ _ _ 19 [.int .u32 19] from rfl) (Reps.one (show Kd.M (Kd.int .u32) _ _ _ 19 [.int .u32 19] from rfl) (Reps.one (show Kd.M (Kd.int .u32) _ _ _ 51 [.int .u32 51] from rfl) (Reps.one (show Kd.M (Kd.int .u32) _ _ _ 51 [.int .u32 51] from rfl) (Reps.one (show Kd.M (Kd.int .u32) _ _ _ 51 [.int .u32 51] from rfl) (Reps.one (show Kd.M (Kd.int .u32) _ _ _ 51 [.int .u32 51] from rfl) (Reps.one (show Kd.M (Kd.int .u32) _ _ _ 51 [.int .u32 51] from rfl) (Reps.one (show Kd.M (Kd.int .u32) _ _ _ 51 [.int .u32 51] from rfl) (Reps.one (show Kd.M (Kd.int .u32) _ _ _ 51 [.int .u32 51] from rfl) (Reps.one (show Kd.M (Kd.int .u32) _ _ _ 51 [.int .u32 51] from rfl) (Reps.one (show Kd.M (Kd.int .u32) _ _ _ 51 [.int .u32 51] from rfl) (Reps.one (show Kd.M (Kd.int .u32) _ _ _ 51 [.int .u32 51] from rfl) (Reps.one (show Kd.M (Kd.int .u32) _ _ _ 51 [.int .u32 51] from rfl) (Reps.one (show Kd.M (Kd.int .u32) _ _ _ 51 [.int .u32 51] from rfl) (Reps.one (show Kd.M (Kd.int .u32) _ _ _ 51 [.int .u32 51] from rfl) (Reps.one (show Kd.M (Kd.int .u32) _ _ _ 3 [.int .u32 3] from rfl) (Reps.one (show Kd.M (Kd.int .u32) _ _ _ 35 [.int .u32 35] from rfl) (Reps.one (show Kd.M (Kd.int .u32) _ _ _ 99 [.int .u32 99] from rfl) (Reps.one (show Kd.M (Kd.int .u32) _ _ _ 99 [.int .u32 99] from rfl) (Reps.one (show Kd.M (Kd.int .u32) _ _ _ 111 [.int .u32 111] from rfl) (Reps.one (show Kd.M (Kd.int .u32) _ _ _ 103 [.int .u32 103] from rfl) (Reps.one (show Kd.M (Kd.int .u32) _ _ _ 115 [.int .u32 115] from rfl) (Reps.none _ _))))))))))))))))))))))))))))))))); intro v156 w19 ho20 hb hg_ hnew_; clear hg_ hnew_; (rw [← Ny155.out] at ho20); have n0_ := Aside0.mk (Kd.R_lower ho20 (below_size (by repeat ((with_reducible exact HB.out))))); have n1_ := Aside0.mk (blk_below (g := gb153) (o := .cells #[.int .i64 a0_0, .int .i64 a0_1, .int .i64 a0_2, .int .i64 a0_3, .int .i64 a0_4, .int .i32 a0_5, .string a0_6] 23 (0, 0)) (by (with_reducible repeat (fail)); exact BK153.out) hb); have n2_ := Aside0.mk (below_step (by repeat ((with_reducible exact HB.out))) hb); clear BK153; clear HB; have HO157 := n0_; have BK153 := n1_; have HB := n2_; clear n0_ n1_ n2_; clear hb ho20) | ((with_reducible refine gate_dst (N := 22) rfl ?_); refine Kd.R_lit (Kd.int .u32) _ 25 ?hg (N := 22) ?hd (xs := ([0, 0, 0, 2, 3, 4, 6, 7, 1, 5, 5, 0, 0, 1, 2, 3, 4, 5, 5, 6, 7, 0, 4, 6, 2, 2, 0, 1, 0, 0, 0] : List Int)) (inner := [.int .u32 0, .int .u32 0, .int .u32 0, .int .u32 2, .int .u32 3, .int .u32 4, .int .u32 6, .int .u32 7, .int .u32 1, .int .u32 5, .int .u32 5, .int .u32 0, .int .u32 0, .int .u32 1, .int .u32 2, .int .u32 3, .int .u32 4, .int .u32 5, .int .u32 5, .int .u32 6, .int .u32 7, .int .u32 0, .int .u32 4, .int .u32 6, .int .u32 2, .int .u32 2, .int .u32 0, .int .u32 1, .int .u32 0, .int .u32 0, .int .u32 0]) (ok := fun _ => True) (okp := fun _ => True) ?hr ?hp (fun _ hk => hk) trivial (Below.refl _ _) (Nat.le_refl _) (by simp) ?_; (case hd => rfl); (case hg => rfl); (case hr => (go_simp; done)); (case hp => exact (Reps.one (show Kd.M (Kd.int .u32) _ _ _ 0 [.int .u32 0] from rfl) (Reps.one (show Kd.M (Kd.int .u32) _ _ _ 0 [.int .u32 0] from rfl) (Reps.one (show Kd.M (Kd.int .u32) _ _ _ 0 [.int .u32 0] from rfl) (Reps.one (show Kd.M (Kd.int .u32) _ _ _ 2 [.int .u32 2] from rfl) (Reps.one (show Kd.M (Kd.int .u32) _ _ _ 3 [.int .u32 3] from rfl) (Reps.one (show Kd.M (Kd.int .u32) _ _ _ 4 [.int .u32 4] from rfl) (Reps.one (show Kd.M (Kd.int .u32) _ _ _ 6 [.int .u32 6] from rfl) (Reps.one (show Kd.M (Kd.int .u32) _ _ _ 7 [.int .u32 7] from rfl) (Reps.one (show Kd.M (Kd.int .u32) _ _ _ 1 [.int .u32 1] from rfl) (Reps.one (show Kd.M (Kd.int .u32) _ _ _ 5 [.int .u32 5] from rfl) (Reps.one (show Kd.M (Kd.int .u32) _ _ _ 5 [.int .u32 5] from rfl) (Reps.one (show Kd.M (Kd.int .u32) _ _ _ 0 [.int .u32 0] from rfl) (Reps.one (show Kd.M (Kd.int .u32) _ _ _ 0 [.int .u32 0] from rfl) (Reps.one (show Kd.M (Kd.int .u32) _ _ _ 1 [.int .u32 1] from rfl) (Reps.one (show Kd.M (Kd.int .u32) _ _ _ 2 [.int .u32 2] from rfl) (Reps.one (show Kd.M (Kd.int .u32) _ _ _ 3 [.int .u32 3] from rfl) (Reps.one (show Kd.M (Kd.int .u32) _ _ _ 4 [.int .u32 4] from rfl) (Reps.one (show Kd.M (Kd.int .u32) _ _ _ 5 [.int .u32 5] from rfl) (Reps.one (show Kd.M (Kd.int .u32) _ _ _ 5 [.int .u32 5] from rfl) (Reps.one (show Kd.M (Kd.int .u32) _ _ _ 6 [.int .u32 6] from rfl) (Reps.one (show Kd.M (Kd.int .u32) _ _ _ 7 [.int .u32 7] from rfl) (Reps.one (show Kd.M (Kd.int .u32) _ _ _ 0 [.int .u32 0] from rfl) (Reps.one (show Kd.M (Kd.int .u32) _ _ _ 4 [.int .u32 4] from rfl) (Reps.one (show Kd.M (Kd.int .u32) _ _ _ 6 [.int .u32 6] from rfl) (Reps.one (show Kd.M (Kd.int .u32) _ _ _ 2 [.int .u32 2] from rfl) (Reps.one (show Kd.M (Kd.int .u32) _ _ _ 2 [.int .u32 2] from rfl) (Reps.one (show Kd.M (Kd.int .u32) _ _ _ 0 [.int .u32 0] from rfl) (Reps.one (show Kd.M (Kd.int .u32) _ _ _ 1 [.int .u32 1] from rfl) (Reps.one (show Kd.M (Kd.int .u32) _ _ _ 0 [.int .u32 0] from rfl) (Reps.one (show Kd.M (Kd.int .u32) _ _ _ 0 [.int .u32 0] from rfl) (Reps.one (show Kd.M (Kd.int .u32) _ _ _ 0 [.int .u32 0] from rfl) (Reps.none _ _))))))))))))))))))))))))))))))))); intro v159 w21 ho22 hb hg_ hnew_; clear hg_ hnew_; (rw [← Ny158.out] at ho22); have n0_ := Aside0.mk (Kd.R_elder' (by (with_reducible repeat (fail)); exact HO157.out) (Kd.R_base ho22) hb); have n1_ := Aside0.mk (Kd.R_lower (Kd.R_new' ho22 (Kd.R_lt (by (with_reducible repeat (fail)); exact HO157.out))) (below_size (by repeat ((with_reducible exact HB.out))))); have n2_ := Aside0.mk (blk_below (g := gb153) (o := .cells #[.int .i64 a0_0, .int .i64 a0_1, .int .i64 a0_2, .int .i64 a0_3, .int .i64 a0_4, .int .i32 a0_5, .string a0_6] 23 (0, 0)) (by (with_reducible repeat (fail)); exact BK153.out) hb); have n3_ := Aside0.mk (below_step (by repeat ((with_reducible exact HB.out))) hb); clear HO157; clear BK153; clear HB; have HO157 := n0_; have HO160 := n1_; have BK153 := n2_; have HB := n3_; clear n0_ n1_ n2_ n3_; clear hb ho22; have hcz23_0 : w21.cell? ⟨gb153, 0, none⟩ = some (.int .i64 a0_0) := (blk_cell BK153.out 0).trans rfl; have hcz23_1 : w21.cell? ⟨gb153, 1, none⟩ = some (.int .i64 a0_1) := (blk_cell BK153.out 1).trans rfl; have hcz23_2 : w21.cell? ⟨gb153, 2, none⟩ = some (.int .i64 a0_2) := (blk_cell BK153.out 2).trans rfl; have hcz23_3 : w21.cell? ⟨gb153, 3, none⟩ = some (.int .i64 a0_3) := (blk_cell BK153.out 3).trans rfl; have hcz23_4 : w21.cell? ⟨gb153, 4, none⟩ = some (.int .i64 a0_4) := (blk_cell BK153.out 4).trans rfl; have hcz23_5 : w21.cell? ⟨gb153, 5, none⟩ = some (.int .i32 a0_5) := (blk_cell BK153.out 5).trans rfl; have hcz23_6 : w21.cell? ⟨gb153, 6, none⟩ = some (.string a0_6) := (blk_cell BK153.out 6).trans rfl; have hfz23_0 := blk_frozen BK153.out 0; have hfz23_1 := blk_frozen BK153.out 1; have hfz23_2 := blk_frozen BK153.out 2; have hfz23_3 := blk_frozen BK153.out 3; have hfz23_4 := blk_frozen BK153.out 4; have hfz23_5 := blk_frozen BK153.out 5; have hfz23_6 := blk_frozen BK153.out 6; obtain ⟨Ao24, co24, eo24⟩ := Kd.R_slice HO157.out; subst eo24; have p161 : 0 ≤ (a0_1 : Int) := of_decide_eq_true (by (with_reducible assumption)); have q161 : a0_1 < (y155.length : Int) := of_decide_eq_true (by (with_reducible assumption)); obtain ⟨ad161, e161, hx161_0⟩ := Kd.at_int (Kd.R_reads' HO157.out).2.2 a0_1 p161 q161; cases e161; replace p161 := eq_true p161; replace q161 := eq_true q161; obtain ⟨Ao25, co25, eo25⟩ := Kd.R_slice HO160.out; subst eo25; have p162 : 0 ≤ (a0_1 : Int) := of_decide_eq_true (by (with_reducible assumption)); have q162 : a0_1 < (y158.length : Int) := of_decide_eq_true (by (with_reducible assumption)); obtain ⟨ad162, e162, hx162_0⟩ := Kd.at_int (Kd.R_reads' HO160.out).2.2 a0_1 p162 q162; cases e162; replace p162 := eq_true p162; replace q162 := eq_true q162))
       repeat (go_quiet (fail); go_upto_block 0 with (first | (go_at_call 18; (with_reducible refine (brazierref19_lay.calls kj1 (((rd y155 a0_1) + ((rd y158 a0_1) * 4096)) % 4294967296) a0_2 0 5 7 t163 _ A15.out).mono ?_); rintro e w' ⟨rfl, ⟨nd, rfl⟩⟩) | (go_at_call 18; (with_reducible refine (brazierref19_lay.calls kj1 t163 a0_3 0 5 15 t164 _ A16.out).mono ?_); rintro e w' ⟨rfl, ⟨nd, rfl⟩⟩) | (go_at_call 18; (with_reducible refine (brazierref19_lay.calls kj1 t164 a0_4 0 5 20 t165 _ A17.out).mono ?_); rintro e w' ⟨rfl, ⟨nd, rfl⟩⟩)))
       go_cut [6] (fun v6 wc => ∃ (kq : Nat) (x6_17 : Int), v6 = .int .u32 x6_17 ∧ Aside0 (brazierref19_Encode.j4 kq x6_17 a0_0 a0_1 a0_2 a0_3 a0_4 a0_5 a0_6 = some (r1, r2)) ∧ Aside0 (kq ≤ kj1) ∧ Aside0 (wc.heap[gb153]? = some (.cells #[.int .i64 a0_0, .int .i64 a0_1, .int .i64 a0_2, .int .i64 a0_3, .int .i64 a0_4, .int .i32 a0_5, .string a0_6] 23 (0, 0))) ∧ Aside0 (Below w.heap.size w wc))
       case first =>
        have H := HC18.out
        clear HC18
        by_cases c26 : a0_1 = 1
        ·rw [if_pos c26] at H
         have c26b0 : (a0_1 == 1) = true := beq_iff_eq.mpr c26
         have c26b1 : (a0_1 != 1) = false := bne_eq_false_iff_eq.mpr c26
         clear c26
         replace H := Option.bind_eq_some_iff.mp H
         obtain ⟨t166, A270, H⟩ := H
         replace H : (brazierref19_Encode.j4 kj1 t166 a0_0 a0_1 a0_2 a0_3 a0_4 a0_5 a0_6) = some (r1, r2) := H
         have A27 := Aside0.mk A270
         clear A270
         have H' := Aside0.mk H
         clear H
         go_wp2_with ((go_at_call 18; (with_reducible refine (brazierref19_lay.calls kj1 t165 (wrap64 (a0_5)) 0 20 12 t166 _ A27.out).mono ?_); rintro e w' ⟨rfl, ⟨nd, rfl⟩⟩))
         go_meet
         case rel => exact ⟨_, (t166), (by rfl), H', ⟨by have := HJ1.out; omega⟩, ⟨by (with_reducible repeat (refine blk_drewN ?_ _)); exact BK153.out⟩, ⟨by repeat ((with_reducible first | exact HB.out | apply pw_below_drewN))⟩⟩
        ·rw [if_neg c26] at H
         have c26b0 : (a0_1 == 1) = false := beq_eq_false_iff_ne.mpr c26
         have c26b1 : (a0_1 != 1) = true := bne_iff_ne.mpr c26
         by_cases c28 : a0_1 = 28
         ·rw [if_pos c28] at H
          have c28b0 : (a0_1 == 28) = true := beq_iff_eq.mpr c28
          have c28b1 : (a0_1 != 28) = false := bne_eq_false_iff_eq.mpr c28
          clear c28
          replace H := Option.bind_eq_some_iff.mp H
          obtain ⟨t167, A290, H⟩ := H
          replace H : ((brazierref19_lay.f kj1 t167 (wrap64 (a0_5)) 11 1 20).bind fun t168 => ((brazierref19_lay.f kj1 t168 (wrap64 (a0_5)) 12 8 12).bind fun t169 => ((brazierref19_lay.f kj1 t169 (wrap64 (a0_5)) 20 1 31).bind fun t170 => (brazierref19_Encode.j4 kj1 t170 a0_0 a0_1 a0_2 a0_3 a0_4 a0_5 a0_6)))) = some (r1, r2) := H
          have A29 := Aside0.mk A290
          clear A290
          replace H := Option.bind_eq_some_iff.mp H
          obtain ⟨t168, A300, H⟩ := H
          replace H : ((brazierref19_lay.f kj1 t168 (wrap64 (a0_5)) 12 8 12).bind fun t169 => ((brazierref19_lay.f kj1 t169 (wrap64 (a0_5)) 20 1 31).bind fun t170 => (brazierref19_Encode.j4 kj1 t170 a0_0 a0_1 a0_2 a0_3 a0_4 a0_5 a0_6))) = some (r1, r2) := H
          have A30 := Aside0.mk A300
          clear A300
          replace H := Option.bind_eq_some_iff.mp H
          obtain ⟨t169, A310, H⟩ := H
          replace H : ((brazierref19_lay.f kj1 t169 (wrap64 (a0_5)) 20 1 31).bind fun t170 => (brazierref19_Encode.j4 kj1 t170 a0_0 a0_1 a0_2 a0_3 a0_4 a0_5 a0_6)) = some (r1, r2) := H
          have A31 := Aside0.mk A310
          clear A310
          replace H := Option.bind_eq_some_iff.mp H
          obtain ⟨t170, A320, H⟩ := H
          replace H : (brazierref19_Encode.j4 kj1 t170 a0_0 a0_1 a0_2 a0_3 a0_4 a0_5 a0_6) = some (r1, r2) := H
          have A32 := Aside0.mk A320
          clear A320
          have H' := Aside0.mk H
          clear H
          go_wp2_with (first | (go_at_call 18; (with_reducible refine (brazierref19_lay.calls kj1 t165 (wrap64 (a0_5)) 1 10 21 t167 _ A29.out).mono ?_); rintro e w' ⟨rfl, ⟨nd, rfl⟩⟩) | (go_at_call 18; (with_reducible refine (brazierref19_lay.calls kj1 t167 (wrap64 (a0_5)) 11 1 20 t168 _ A30.out).mono ?_); rintro e w' ⟨rfl, ⟨nd, rfl⟩⟩) | (go_at_call 18; (with_reducible refine (brazierref19_lay.calls kj1 t168 (wrap64 (a0_5)) 12 8 12 t169 _ A31.out).mono ?_); rintro e w' ⟨rfl, ⟨nd, rfl⟩⟩) | (go_at_call 18; (with_reducible refine (brazierref19_lay.calls kj1 t169 (wrap64 (a0_5)) 20 1 31 t170 _ A32.out).mono ?_); rintro e w' ⟨rfl, ⟨nd, rfl⟩⟩))
          go_meet
          case rel => exact ⟨_, (t170), (by rfl), H', ⟨by have := HJ1.out; omega⟩, ⟨by (with_reducible repeat (refine blk_drewN ?_ _)); exact BK153.out⟩, ⟨by repeat ((with_reducible first | exact HB.out | apply pw_below_drewN))⟩⟩
         ·rw [if_neg c28] at H
          have c28b0 : (a0_1 == 28) = false := beq_eq_false_iff_ne.mpr c28
          have c28b1 : (a0_1 != 28) = true := bne_iff_ne.mpr c28
          have HC33 := Aside0.mk H
          clear H
          go_upto_if 71 with (fail)
          go_cut [71] (fun v71 wc => ∃ (kq : Nat) (x71_32 : Bool), v71 = .bool x71_32 ∧ Aside0 (brazierref19_Encode.j1 kq t165 (wrap64 (a0_5)) a0_1 x71_32 a0_0 a0_1 a0_2 a0_3 a0_4 a0_5 a0_6 = some (r1, r2)) ∧ Aside0 (kq ≤ kj1) ∧ Aside0 (wc.heap[gb153]? = some (.cells #[.int .i64 a0_0, .int .i64 a0_1, .int .i64 a0_2, .int .i64 a0_3, .int .i64 a0_4, .int .i32 a0_5, .string a0_6] 23 (0, 0))) ∧ Aside0 (Below w.heap.size w wc))
          case first =>
           have H := HC33.out
           clear HC33
           by_cases c34 : a0_1 = 2
           ·rw [if_pos c34] at H
            have c34b0 : (a0_1 == 2) = true := beq_iff_eq.mpr c34
            have c34b1 : (a0_1 != 2) = false := bne_eq_false_iff_eq.mpr c34
            clear c34
            (rw [c34b0])
            have H' := Aside0.mk H
            clear H
            go_wp2
            go_meet
            case rel => exact ⟨_, ((a0_1 == 2)), (by (simp [*]; done)), H', ⟨by have := HJ1.out; omega⟩, ⟨by (with_reducible repeat (refine blk_drewN ?_ _)); exact BK153.out⟩, ⟨by repeat ((with_reducible first | exact HB.out | apply pw_below_drewN))⟩⟩
           ·rw [if_neg c34] at H
            have c34b0 : (a0_1 == 2) = false := beq_eq_false_iff_ne.mpr c34
            have c34b1 : (a0_1 != 2) = true := bne_iff_ne.mpr c34
            (rw [c34b0])
            by_cases c35 : a0_1 = 3
            ·rw [if_pos c35] at H
             have c35b0 : (a0_1 == 3) = true := beq_iff_eq.mpr c35
             have c35b1 : (a0_1 != 3) = false := bne_eq_false_iff_eq.mpr c35
             clear c35
             have H' := Aside0.mk H
             clear H
             go_wp2
             go_meet
             case rel => exact ⟨_, ((a0_1 == 3)), (by (simp [*]; done)), H', ⟨by have := HJ1.out; omega⟩, ⟨by (with_reducible repeat (refine blk_drewN ?_ _)); exact BK153.out⟩, ⟨by repeat ((with_reducible first | exact HB.out | apply pw_below_drewN))⟩⟩
            ·rw [if_neg c35] at H
             have c35b0 : (a0_1 == 3) = false := beq_eq_false_iff_ne.mpr c35
             have c35b1 : (a0_1 != 3) = true := bne_iff_ne.mpr c35
             by_cases c36 : a0_1 = 4
             ·rw [if_pos c36] at H
              have c36b0 : (a0_1 == 4) = true := beq_iff_eq.mpr c36
              have c36b1 : (a0_1 != 4) = false := bne_eq_false_iff_eq.mpr c36
              clear c36
              have H' := Aside0.mk H
              clear H
              go_wp2
              go_meet
              case rel => exact ⟨_, ((a0_1 == 4)), (by (simp [*]; done)), H', ⟨by have := HJ1.out; omega⟩, ⟨by (with_reducible repeat (refine blk_drewN ?_ _)); exact BK153.out⟩, ⟨by repeat ((with_reducible first | exact HB.out | apply pw_below_drewN))⟩⟩
             ·rw [if_neg c36] at H
              have c36b0 : (a0_1 == 4) = false := beq_eq_false_iff_ne.mpr c36
              have c36b1 : (a0_1 != 4) = true := bne_iff_ne.mpr c36
              by_cases c37 : a0_1 = 5
              ·rw [if_pos c37] at H
               have c37b0 : (a0_1 == 5) = true := beq_iff_eq.mpr c37
               have c37b1 : (a0_1 != 5) = false := bne_eq_false_iff_eq.mpr c37
               clear c37
               have H' := Aside0.mk H
               clear H
               go_wp2
               go_meet
               case rel => exact ⟨_, ((a0_1 == 5)), (by (simp [*]; done)), H', ⟨by have := HJ1.out; omega⟩, ⟨by (with_reducible repeat (refine blk_drewN ?_ _)); exact BK153.out⟩, ⟨by repeat ((with_reducible first | exact HB.out | apply pw_below_drewN))⟩⟩
              ·rw [if_neg c37] at H
               have c37b0 : (a0_1 == 5) = false := beq_eq_false_iff_ne.mpr c37
               have c37b1 : (a0_1 != 5) = true := bne_iff_ne.mpr c37
               by_cases c38 : a0_1 = 6
               ·rw [if_pos c38] at H
                have c38b0 : (a0_1 == 6) = true := beq_iff_eq.mpr c38
                have c38b1 : (a0_1 != 6) = false := bne_eq_false_iff_eq.mpr c38
                clear c38
                have H' := Aside0.mk H
                clear H
                go_wp2
                go_meet
                case rel => exact ⟨_, ((a0_1 == 6)), (by (simp [*]; done)), H', ⟨by have := HJ1.out; omega⟩, ⟨by (with_reducible repeat (refine blk_drewN ?_ _)); exact BK153.out⟩, ⟨by repeat ((with_reducible first | exact HB.out | apply pw_below_drewN))⟩⟩
               ·rw [if_neg c38] at H
                have c38b0 : (a0_1 == 6) = false := beq_eq_false_iff_ne.mpr c38
                have c38b1 : (a0_1 != 6) = true := bne_iff_ne.mpr c38
                by_cases c39 : a0_1 = 7
                ·rw [if_pos c39] at H
                 have c39b0 : (a0_1 == 7) = true := beq_iff_eq.mpr c39
                 have c39b1 : (a0_1 != 7) = false := bne_eq_false_iff_eq.mpr c39
                 clear c39
                 have H' := Aside0.mk H
                 clear H
                 go_wp2
                 go_meet
                 case rel => exact ⟨_, ((a0_1 == 7)), (by (simp [*]; done)), H', ⟨by have := HJ1.out; omega⟩, ⟨by (with_reducible repeat (refine blk_drewN ?_ _)); exact BK153.out⟩, ⟨by repeat ((with_reducible first | exact HB.out | apply pw_below_drewN))⟩⟩
                ·rw [if_neg c39] at H
                 have c39b0 : (a0_1 == 7) = false := beq_eq_false_iff_ne.mpr c39
                 have c39b1 : (a0_1 != 7) = true := bne_iff_ne.mpr c39
                 by_cases c40 : a0_1 = 24
                 ·rw [if_pos c40] at H
                  have c40b0 : (a0_1 == 24) = true := beq_iff_eq.mpr c40
                  have c40b1 : (a0_1 != 24) = false := bne_eq_false_iff_eq.mpr c40
                  clear c40
                  have H' := Aside0.mk H
                  clear H
                  go_wp2
                  go_meet
                  case rel => exact ⟨_, ((a0_1 == 24)), (by (simp [*]; done)), H', ⟨by have := HJ1.out; omega⟩, ⟨by (with_reducible repeat (refine blk_drewN ?_ _)); exact BK153.out⟩, ⟨by repeat ((with_reducible first | exact HB.out | apply pw_below_drewN))⟩⟩
                 ·rw [if_neg c40] at H
                  have c40b0 : (a0_1 == 24) = false := beq_eq_false_iff_ne.mpr c40
                  have c40b1 : (a0_1 != 24) = true := bne_iff_ne.mpr c40
                  have H' := Aside0.mk H
                  clear H
                  go_wp2
                  go_meet
                  case rel => exact ⟨_, ((a0_1 == 29)), (by rfl), H', ⟨by have := HJ1.out; omega⟩, ⟨by (with_reducible repeat (refine blk_drewN ?_ _)); exact BK153.out⟩, ⟨by repeat ((with_reducible first | exact HB.out | apply pw_below_drewN))⟩⟩
          case rest =>
           clear HC33 c12b0 c13b0 c14b0 c26 c26b0 c26b1 c28 c28b0 c28b1 hcz23_0 hcz23_1 hcz23_2 hcz23_3 hcz23_4 hcz23_5 hcz23_6 hfz23_0 hfz23_1 hfz23_2 hfz23_3 hfz23_4 hfz23_5 hfz23_6 hx161_0 hx162_0 p161 p162 q161 q162
           obtain ⟨kq, x71_32, rfl, HA, HJ32, BK153, HB⟩ := hcut
           cases kq with
           | zero => exact absurd HA.out (by simp [brazierref19_Encode.j1])
           | succ kj32 =>
            have H := HA.out
            clear HA
            simp only [brazierref19_Encode.j1] at H
            by_cases c41 : x71_32 = true
            ·subst c41
             have H1 : ((brazierref19_lay.f kj32 t165 (wrap64 (a0_5)) 0 12 20).bind fun t171 => (brazierref19_Encode.j4 kj32 t171 a0_0 a0_1 a0_2 a0_3 a0_4 a0_5 a0_6)) = some (r1, r2) := by rw [if_pos rfl] at H; exact H
             clear H
             have H := H1
             clear H1
             replace H := Option.bind_eq_some_iff.mp H
             obtain ⟨t171, A420, H⟩ := H
             replace H : (brazierref19_Encode.j4 kj32 t171 a0_0 a0_1 a0_2 a0_3 a0_4 a0_5 a0_6) = some (r1, r2) := H
             have A42 := Aside0.mk A420
             clear A420
             have H' := Aside0.mk H
             clear H
             go_wp2_with ((go_at_call 18; (with_reducible refine (brazierref19_lay.calls kj32 t165 (wrap64 (a0_5)) 0 12 20 t171 _ A42.out).mono ?_); rintro e w' ⟨rfl, ⟨nd, rfl⟩⟩))
             go_meet
             case rel => exact ⟨_, (t171), (by rfl), H', ⟨by have := HJ1.out; have := HJ32.out; omega⟩, ⟨by (with_reducible repeat (refine blk_drewN ?_ _)); exact BK153.out⟩, ⟨by repeat ((with_reducible first | exact HB.out | apply pw_below_drewN))⟩⟩
            ·replace c41 := Bool.eq_false_iff.mpr c41
             subst c41
             have H1 : (if a0_1 = 8 then (brazierref19_Encode.j2 kj32 t165 (wrap64 (a0_5)) a0_1 (a0_1 == 8) a0_0 a0_1 a0_2 a0_3 a0_4 a0_5 a0_6) else (if a0_1 = 9 then (brazierref19_Encode.j2 kj32 t165 (wrap64 (a0_5)) a0_1 (a0_1 == 9) a0_0 a0_1 a0_2 a0_3 a0_4 a0_5 a0_6) else (brazierref19_Encode.j2 kj32 t165 (wrap64 (a0_5)) a0_1 (a0_1 == 10) a0_0 a0_1 a0_2 a0_3 a0_4 a0_5 a0_6))) = some (r1, r2) := by rw [if_neg (show ¬ (false = true) by decide)] at H; exact H
             clear H
             have H := H1
             clear H1
             have HC43 := Aside0.mk H
             clear H
             go_upto_if 83 with (fail)
             go_cut [83] (fun v83 wc => ∃ (kq : Nat) (x83_42 : Bool), v83 = .bool x83_42 ∧ Aside0 (brazierref19_Encode.j2 kq t165 (wrap64 (a0_5)) a0_1 x83_42 a0_0 a0_1 a0_2 a0_3 a0_4 a0_5 a0_6 = some (r1, r2)) ∧ Aside0 (kq ≤ kj32) ∧ Aside0 (wc.heap[gb153]? = some (.cells #[.int .i64 a0_0, .int .i64 a0_1, .int .i64 a0_2, .int .i64 a0_3, .int .i64 a0_4, .int .i32 a0_5, .string a0_6] 23 (0, 0))) ∧ Aside0 (Below w.heap.size w wc))
             case first =>
              have H := HC43.out
              clear HC43
              by_cases c44 : a0_1 = 8
              ·rw [if_pos c44] at H
               have c44b0 : (a0_1 == 8) = true := beq_iff_eq.mpr c44
               have c44b1 : (a0_1 != 8) = false := bne_eq_false_iff_eq.mpr c44
               clear c44
               (rw [c44b0])
               have H' := Aside0.mk H
               clear H
               go_wp2
               go_meet
               case rel => exact ⟨_, ((a0_1 == 8)), (by (simp [*]; done)), H', ⟨by have := HJ1.out; have := HJ32.out; omega⟩, ⟨by (with_reducible repeat (fail)); exact BK153.out⟩, ⟨by repeat ((with_reducible exact HB.out))⟩⟩
              ·rw [if_neg c44] at H
               have c44b0 : (a0_1 == 8) = false := beq_eq_false_iff_ne.mpr c44
               have c44b1 : (a0_1 != 8) = true := bne_iff_ne.mpr c44
               (rw [c44b0])
               by_cases c45 : a0_1 = 9
               ·rw [if_pos c45] at H
                have c45b0 : (a0_1 == 9) = true := beq_iff_eq.mpr c45
                have c45b1 : (a0_1 != 9) = false := bne_eq_false_iff_eq.mpr c45
                clear c45
                have H' := Aside0.mk H
                clear H
                go_wp2
                go_meet
                case rel => exact ⟨_, ((a0_1 == 9)), (by (simp [*]; done)), H', ⟨by have := HJ1.out; have := HJ32.out; omega⟩, ⟨by (with_reducible repeat (fail)); exact BK153.out⟩, ⟨by repeat ((with_reducible exact HB.out))⟩⟩
               ·rw [if_neg c45] at H
                have c45b0 : (a0_1 == 9) = false := beq_eq_false_iff_ne.mpr c45
                have c45b1 : (a0_1 != 9) = true := bne_iff_ne.mpr c45
                have H' := Aside0.mk H
                clear H
                go_wp2
                go_meet
                case rel => exact ⟨_, ((a0_1 == 10)), (by rfl), H', ⟨by have := HJ1.out; have := HJ32.out; omega⟩, ⟨by (with_reducible repeat (fail)); exact BK153.out⟩, ⟨by repeat ((with_reducible exact HB.out))⟩⟩
             case rest =>
              clear HC43
              obtain ⟨kq, x83_42, rfl, HA, HJ42, BK153, HB⟩ := hcut
              cases kq with
              | zero => exact absurd HA.out (by simp [brazierref19_Encode.j2])
              | succ kj42 =>
               have H := HA.out
               clear HA
               simp only [brazierref19_Encode.j2] at H
               by_cases c46 : x83_42 = true
               ·subst c46
                have H1 : ((brazierref19_lay.f kj42 t165 (wrap64 (a0_5)) 0 5 20).bind fun t172 => (brazierref19_Encode.j4 kj42 t172 a0_0 a0_1 a0_2 a0_3 a0_4 a0_5 a0_6)) = some (r1, r2) := by rw [if_pos rfl] at H; exact H
                clear H
                have H := H1
                clear H1
                replace H := Option.bind_eq_some_iff.mp H
                obtain ⟨t172, A470, H⟩ := H
                replace H : (brazierref19_Encode.j4 kj42 t172 a0_0 a0_1 a0_2 a0_3 a0_4 a0_5 a0_6) = some (r1, r2) := H
                have A47 := Aside0.mk A470
                clear A470
                have H' := Aside0.mk H
                clear H
                go_wp2_with ((go_at_call 18; (with_reducible refine (brazierref19_lay.calls kj42 t165 (wrap64 (a0_5)) 0 5 20 t172 _ A47.out).mono ?_); rintro e w' ⟨rfl, ⟨nd, rfl⟩⟩))
                go_meet
                case rel => exact ⟨_, (t172), (by rfl), H', ⟨by have := HJ1.out; have := HJ32.out; have := HJ42.out; omega⟩, ⟨by (with_reducible repeat (refine blk_drewN ?_ _)); exact BK153.out⟩, ⟨by repeat ((with_reducible first | exact HB.out | apply pw_below_drewN))⟩⟩
               ·replace c46 := Bool.eq_false_iff.mpr c46
                subst c46
                have H1 : (if a0_1 = 25 then ((brazierref19_lay.f kj42 t165 (wrap64 (a0_5)) 0 5 7).bind fun t173 => ((brazierref19_lay.f kj42 t173 (wrap64 (a0_5)) 5 7 25).bind fun t174 => (brazierref19_Encode.j4 kj42 t174 a0_0 a0_1 a0_2 a0_3 a0_4 a0_5 a0_6))) else (if a0_1 = 26 then (brazierref19_Encode.j3 kj42 t165 (wrap64 (a0_5)) (a0_1 == 26) a0_0 a0_1 a0_2 a0_3 a0_4 a0_5 a0_6) else (brazierref19_Encode.j3 kj42 t165 (wrap64 (a0_5)) (a0_1 == 27) a0_0 a0_1 a0_2 a0_3 a0_4 a0_5 a0_6))) = some (r1, r2) := by rw [if_neg (show ¬ (false = true) by decide)] at H; exact H
                clear H
                have H := H1
                clear H1
                by_cases c48 : a0_1 = 25
                ·rw [if_pos c48] at H
                 have c48b0 : (a0_1 == 25) = true := beq_iff_eq.mpr c48
                 have c48b1 : (a0_1 != 25) = false := bne_eq_false_iff_eq.mpr c48
                 clear c48
                 replace H := Option.bind_eq_some_iff.mp H
                 obtain ⟨t173, A490, H⟩ := H
                 replace H : ((brazierref19_lay.f kj42 t173 (wrap64 (a0_5)) 5 7 25).bind fun t174 => (brazierref19_Encode.j4 kj42 t174 a0_0 a0_1 a0_2 a0_3 a0_4 a0_5 a0_6)) = some (r1, r2) := H
                 have A49 := Aside0.mk A490
                 clear A490
                 replace H := Option.bind_eq_some_iff.mp H
                 obtain ⟨t174, A500, H⟩ := H
                 replace H : (brazierref19_Encode.j4 kj42 t174 a0_0 a0_1 a0_2 a0_3 a0_4 a0_5 a0_6) = some (r1, r2) := H
                 have A50 := Aside0.mk A500
                 clear A500
                 have H' := Aside0.mk H
                 clear H
                 go_wp2_with (first | (go_at_call 18; (with_reducible refine (brazierref19_lay.calls kj42 t165 (wrap64 (a0_5)) 0 5 7 t173 _ A49.out).mono ?_); rintro e w' ⟨rfl, ⟨nd, rfl⟩⟩) | (go_at_call 18; (with_reducible refine (brazierref19_lay.calls kj42 t173 (wrap64 (a0_5)) 5 7 25 t174 _ A50.out).mono ?_); rintro e w' ⟨rfl, ⟨nd, rfl⟩⟩))
                 go_meet
                 case rel => exact ⟨_, (t174), (by rfl), H', ⟨by have := HJ1.out; have := HJ32.out; have := HJ42.out; omega⟩, ⟨by (with_reducible repeat (refine blk_drewN ?_ _)); exact BK153.out⟩, ⟨by repeat ((with_reducible first | exact HB.out | apply pw_below_drewN))⟩⟩
                ·rw [if_neg c48] at H
                 have c48b0 : (a0_1 == 25) = false := beq_eq_false_iff_ne.mpr c48
                 have c48b1 : (a0_1 != 25) = true := bne_iff_ne.mpr c48
                 have HC51 := Aside0.mk H
                 clear H
                 go_upto_if 98 with (fail)
                 go_cut [98] (fun v98 wc => ∃ (kq : Nat) (x98_50 : Bool), v98 = .bool x98_50 ∧ Aside0 (brazierref19_Encode.j3 kq t165 (wrap64 (a0_5)) x98_50 a0_0 a0_1 a0_2 a0_3 a0_4 a0_5 a0_6 = some (r1, r2)) ∧ Aside0 (kq ≤ kj42) ∧ Aside0 (wc.heap[gb153]? = some (.cells #[.int .i64 a0_0, .int .i64 a0_1, .int .i64 a0_2, .int .i64 a0_3, .int .i64 a0_4, .int .i32 a0_5, .string a0_6] 23 (0, 0))) ∧ Aside0 (Below w.heap.size w wc))
                 case first =>
                  have H := HC51.out
                  clear HC51
                  by_cases c52 : a0_1 = 26
                  ·rw [if_pos c52] at H
                   have c52b0 : (a0_1 == 26) = true := beq_iff_eq.mpr c52
                   have c52b1 : (a0_1 != 26) = false := bne_eq_false_iff_eq.mpr c52
                   clear c52
                   (rw [c52b0])
                   have H' := Aside0.mk H
                   clear H
                   go_wp2
                   go_meet
                   case rel => exact ⟨_, ((a0_1 == 26)), (by (simp [*]; done)), H', ⟨by have := HJ1.out; have := HJ32.out; have := HJ42.out; omega⟩, ⟨by (with_reducible repeat (fail)); exact BK153.out⟩, ⟨by repeat ((with_reducible exact HB.out))⟩⟩
                  ·rw [if_neg c52] at H
                   have c52b0 : (a0_1 == 26) = false := beq_eq_false_iff_ne.mpr c52
                   have c52b1 : (a0_1 != 26) = true := bne_iff_ne.mpr c52
                   (rw [c52b0])
                   have H' := Aside0.mk H
                   clear H
                   go_wp2
                   go_meet
                   case rel => exact ⟨_, ((a0_1 == 27)), (by rfl), H', ⟨by have := HJ1.out; have := HJ32.out; have := HJ42.out; omega⟩, ⟨by (with_reducible repeat (fail)); exact BK153.out⟩, ⟨by repeat ((with_reducible exact HB.out))⟩⟩
                 case rest =>
                  clear HC51 c48 c48b0 c48b1
                  obtain ⟨kq, x98_50, rfl, HA, HJ50, BK153, HB⟩ := hcut
                  cases kq with
                  | zero => exact absurd HA.out (by simp [brazierref19_Encode.j3])
                  | succ kj50 =>
                   have H := HA.out
                   clear HA
                   simp only [brazierref19_Encode.j3] at H
                   by_cases c53 : x98_50 = true
                   ·subst c53
                    have H1 : ((brazierref19_lay.f kj50 t165 (wrap64 (a0_5)) 1 4 8).bind fun t175 => ((brazierref19_lay.f kj50 t175 (wrap64 (a0_5)) 5 6 25).bind fun t176 => ((brazierref19_lay.f kj50 t176 (wrap64 (a0_5)) 11 1 7).bind fun t177 => ((brazierref19_lay.f kj50 t177 (wrap64 (a0_5)) 12 1 31).bind fun t178 => (brazierref19_Encode.j4 kj50 t178 a0_0 a0_1 a0_2 a0_3 a0_4 a0_5 a0_6))))) = some (r1, r2) := by rw [if_pos rfl] at H; exact H
                    clear H
                    have H := H1
                    clear H1
                    replace H := Option.bind_eq_some_iff.mp H
                    obtain ⟨t175, A540, H⟩ := H
                    replace H : ((brazierref19_lay.f kj50 t175 (wrap64 (a0_5)) 5 6 25).bind fun t176 => ((brazierref19_lay.f kj50 t176 (wrap64 (a0_5)) 11 1 7).bind fun t177 => ((brazierref19_lay.f kj50 t177 (wrap64 (a0_5)) 12 1 31).bind fun t178 => (brazierref19_Encode.j4 kj50 t178 a0_0 a0_1 a0_2 a0_3 a0_4 a0_5 a0_6)))) = some (r1, r2) := H
                    have A54 := Aside0.mk A540
                    clear A540
                    replace H := Option.bind_eq_some_iff.mp H
                    obtain ⟨t176, A550, H⟩ := H
                    replace H : ((brazierref19_lay.f kj50 t176 (wrap64 (a0_5)) 11 1 7).bind fun t177 => ((brazierref19_lay.f kj50 t177 (wrap64 (a0_5)) 12 1 31).bind fun t178 => (brazierref19_Encode.j4 kj50 t178 a0_0 a0_1 a0_2 a0_3 a0_4 a0_5 a0_6))) = some (r1, r2) := H
                    have A55 := Aside0.mk A550
                    clear A550
                    replace H := Option.bind_eq_some_iff.mp H
                    obtain ⟨t177, A560, H⟩ := H
                    replace H : ((brazierref19_lay.f kj50 t177 (wrap64 (a0_5)) 12 1 31).bind fun t178 => (brazierref19_Encode.j4 kj50 t178 a0_0 a0_1 a0_2 a0_3 a0_4 a0_5 a0_6)) = some (r1, r2) := H
                    have A56 := Aside0.mk A560
                    clear A560
                    replace H := Option.bind_eq_some_iff.mp H
                    obtain ⟨t178, A570, H⟩ := H
                    replace H : (brazierref19_Encode.j4 kj50 t178 a0_0 a0_1 a0_2 a0_3 a0_4 a0_5 a0_6) = some (r1, r2) := H
                    have A57 := Aside0.mk A570
                    clear A570
                    have H' := Aside0.mk H
                    clear H
                    go_wp2_with (first | (go_at_call 18; (with_reducible refine (brazierref19_lay.calls kj50 t165 (wrap64 (a0_5)) 1 4 8 t175 _ A54.out).mono ?_); rintro e w' ⟨rfl, ⟨nd, rfl⟩⟩) | (go_at_call 18; (with_reducible refine (brazierref19_lay.calls kj50 t175 (wrap64 (a0_5)) 5 6 25 t176 _ A55.out).mono ?_); rintro e w' ⟨rfl, ⟨nd, rfl⟩⟩) | (go_at_call 18; (with_reducible refine (brazierref19_lay.calls kj50 t176 (wrap64 (a0_5)) 11 1 7 t177 _ A56.out).mono ?_); rintro e w' ⟨rfl, ⟨nd, rfl⟩⟩) | (go_at_call 18; (with_reducible refine (brazierref19_lay.calls kj50 t177 (wrap64 (a0_5)) 12 1 31 t178 _ A57.out).mono ?_); rintro e w' ⟨rfl, ⟨nd, rfl⟩⟩))
                    go_meet
                    case rel => exact ⟨_, (t178), (by rfl), H', ⟨by have := HJ1.out; have := HJ32.out; have := HJ42.out; have := HJ50.out; omega⟩, ⟨by (with_reducible repeat (refine blk_drewN ?_ _)); exact BK153.out⟩, ⟨by repeat ((with_reducible first | exact HB.out | apply pw_below_drewN))⟩⟩
                   ·replace c53 := Bool.eq_false_iff.mpr c53
                    subst c53
                    have H1 : (brazierref19_Encode.j4 kj50 t165 a0_0 a0_1 a0_2 a0_3 a0_4 a0_5 a0_6) = some (r1, r2) := by rw [if_neg (show ¬ (false = true) by decide)] at H; exact H
                    clear H
                    have H := H1
                    clear H1
                    have H' := Aside0.mk H
                    clear H
                    go_wp2
                    go_meet
                    case rel => exact ⟨_, (t165), (by rfl), H', ⟨by have := HJ1.out; have := HJ32.out; have := HJ42.out; have := HJ50.out; omega⟩, ⟨by (with_reducible repeat (fail)); exact BK153.out⟩, ⟨by repeat ((with_reducible exact HB.out))⟩⟩
       case rest =>
        clear HC18 c12b0 c13b0 c14b0 hcz23_0 hcz23_1 hcz23_2 hcz23_3 hcz23_4 hcz23_5 hcz23_6 hfz23_0 hfz23_1 hfz23_2 hfz23_3 hfz23_4 hfz23_5 hfz23_6 hx161_0 hx162_0 p161 p162 q161 q162
        obtain ⟨kq, x6_17, rfl, HA, HJ17, BK153, HB⟩ := hcut
        cases kq with
        | zero => exact absurd HA.out (by simp [brazierref19_Encode.j4])
        | succ kj17 =>
         have H := HA.out
         clear HA
         simp only [brazierref19_Encode.j4] at H
         have HC58 := Aside0.mk H
         clear H
         go_upto_region 40 with (fail)
         go_cut [125] (fun v125 wc => ∃ (kq : Nat) (x125_57 : Bool), v125 = .bool x125_57 ∧ Aside0 (brazierref19_Encode.j5 kq x6_17 x125_57 a0_0 a0_1 a0_2 a0_3 a0_4 a0_5 a0_6 = some (r1, r2)) ∧ Aside0 (kq ≤ kj17) ∧ Aside0 (wc.heap[gb153]? = some (.cells #[.int .i64 a0_0, .int .i64 a0_1, .int .i64 a0_2, .int .i64 a0_3, .int .i64 a0_4, .int .i32 a0_5, .string a0_6] 23 (0, 0))) ∧ Aside0 (Below w.heap.size w wc))
         case first =>
          have H := HC58.out
          clear HC58
          by_cases c59 : a0_1 = 10
          ·rw [if_pos c59] at H
           have c59b0 : (a0_1 == 10) = true := beq_iff_eq.mpr c59
           have c59b1 : (a0_1 != 10) = false := bne_eq_false_iff_eq.mpr c59
           clear c59
           have H' := Aside0.mk H
           clear H
           have hcz60_0 : wc.cell? ⟨gb153, 0, none⟩ = some (.int .i64 a0_0) := (blk_cell BK153.out 0).trans rfl
           have hcz60_1 : wc.cell? ⟨gb153, 1, none⟩ = some (.int .i64 a0_1) := (blk_cell BK153.out 1).trans rfl
           have hcz60_2 : wc.cell? ⟨gb153, 2, none⟩ = some (.int .i64 a0_2) := (blk_cell BK153.out 2).trans rfl
           have hcz60_3 : wc.cell? ⟨gb153, 3, none⟩ = some (.int .i64 a0_3) := (blk_cell BK153.out 3).trans rfl
           have hcz60_4 : wc.cell? ⟨gb153, 4, none⟩ = some (.int .i64 a0_4) := (blk_cell BK153.out 4).trans rfl
           have hcz60_5 : wc.cell? ⟨gb153, 5, none⟩ = some (.int .i32 a0_5) := (blk_cell BK153.out 5).trans rfl
           have hcz60_6 : wc.cell? ⟨gb153, 6, none⟩ = some (.string a0_6) := (blk_cell BK153.out 6).trans rfl
           have hfz60_0 := blk_frozen BK153.out 0
           have hfz60_1 := blk_frozen BK153.out 1
           have hfz60_2 := blk_frozen BK153.out 2
           have hfz60_3 := blk_frozen BK153.out 3
           have hfz60_4 := blk_frozen BK153.out 4
           have hfz60_5 := blk_frozen BK153.out 5
           have hfz60_6 := blk_frozen BK153.out 6
           go_wp2
           go_meet
           case rel => exact ⟨_, (true), (by rfl), H', ⟨by have := HJ1.out; have := HJ17.out; omega⟩, ⟨by (with_reducible repeat (fail)); exact BK153.out⟩, ⟨by repeat ((with_reducible exact HB.out))⟩⟩
          ·rw [if_neg c59] at H
           have c59b0 : (a0_1 == 10) = false := beq_eq_false_iff_ne.mpr c59
           have c59b1 : (a0_1 != 10) = true := bne_iff_ne.mpr c59
           by_cases c61 : a0_1 = 12
           ·rw [if_pos c61] at H
            have c61b0 : (a0_1 == 12) = true := beq_iff_eq.mpr c61
            have c61b1 : (a0_1 != 12) = false := bne_eq_false_iff_eq.mpr c61
            clear c61
            have H' := Aside0.mk H
            clear H
            have hcz62_0 : wc.cell? ⟨gb153, 0, none⟩ = some (.int .i64 a0_0) := (blk_cell BK153.out 0).trans rfl
            have hcz62_1 : wc.cell? ⟨gb153, 1, none⟩ = some (.int .i64 a0_1) := (blk_cell BK153.out 1).trans rfl
            have hcz62_2 : wc.cell? ⟨gb153, 2, none⟩ = some (.int .i64 a0_2) := (blk_cell BK153.out 2).trans rfl
            have hcz62_3 : wc.cell? ⟨gb153, 3, none⟩ = some (.int .i64 a0_3) := (blk_cell BK153.out 3).trans rfl
            have hcz62_4 : wc.cell? ⟨gb153, 4, none⟩ = some (.int .i64 a0_4) := (blk_cell BK153.out 4).trans rfl
            have hcz62_5 : wc.cell? ⟨gb153, 5, none⟩ = some (.int .i32 a0_5) := (blk_cell BK153.out 5).trans rfl
            have hcz62_6 : wc.cell? ⟨gb153, 6, none⟩ = some (.string a0_6) := (blk_cell BK153.out 6).trans rfl
            have hfz62_0 := blk_frozen BK153.out 0
            have hfz62_1 := blk_frozen BK153.out 1
            have hfz62_2 := blk_frozen BK153.out 2
            have hfz62_3 := blk_frozen BK153.out 3
            have hfz62_4 := blk_frozen BK153.out 4
            have hfz62_5 := blk_frozen BK153.out 5
            have hfz62_6 := blk_frozen BK153.out 6
            go_wp2
            go_meet
            case rel => exact ⟨_, (true), (by rfl), H', ⟨by have := HJ1.out; have := HJ17.out; omega⟩, ⟨by (with_reducible repeat (fail)); exact BK153.out⟩, ⟨by repeat ((with_reducible exact HB.out))⟩⟩
           ·rw [if_neg c61] at H
            have c61b0 : (a0_1 == 12) = false := beq_eq_false_iff_ne.mpr c61
            have c61b1 : (a0_1 != 12) = true := bne_iff_ne.mpr c61
            have H' := Aside0.mk H
            clear H
            have hcz63_0 : wc.cell? ⟨gb153, 0, none⟩ = some (.int .i64 a0_0) := (blk_cell BK153.out 0).trans rfl
            have hcz63_1 : wc.cell? ⟨gb153, 1, none⟩ = some (.int .i64 a0_1) := (blk_cell BK153.out 1).trans rfl
            have hcz63_2 : wc.cell? ⟨gb153, 2, none⟩ = some (.int .i64 a0_2) := (blk_cell BK153.out 2).trans rfl
            have hcz63_3 : wc.cell? ⟨gb153, 3, none⟩ = some (.int .i64 a0_3) := (blk_cell BK153.out 3).trans rfl
            have hcz63_4 : wc.cell? ⟨gb153, 4, none⟩ = some (.int .i64 a0_4) := (blk_cell BK153.out 4).trans rfl
            have hcz63_5 : wc.cell? ⟨gb153, 5, none⟩ = some (.int .i32 a0_5) := (blk_cell BK153.out 5).trans rfl
            have hcz63_6 : wc.cell? ⟨gb153, 6, none⟩ = some (.string a0_6) := (blk_cell BK153.out 6).trans rfl
            have hfz63_0 := blk_frozen BK153.out 0
            have hfz63_1 := blk_frozen BK153.out 1
            have hfz63_2 := blk_frozen BK153.out 2
            have hfz63_3 := blk_frozen BK153.out 3
            have hfz63_4 := blk_frozen BK153.out 4
            have hfz63_5 := blk_frozen BK153.out 5
            have hfz63_6 := blk_frozen BK153.out 6
            go_wp2
            go_meet
            case rel => exact ⟨_, ((a0_1 == 18)), (by rfl), H', ⟨by have := HJ1.out; have := HJ17.out; omega⟩, ⟨by (with_reducible repeat (fail)); exact BK153.out⟩, ⟨by repeat ((with_reducible exact HB.out))⟩⟩
         case rest =>
          clear HC58
          obtain ⟨kq, x125_57, rfl, HA, HJ57, BK153, HB⟩ := hcut
          cases kq with
          | zero => exact absurd HA.out (by simp [brazierref19_Encode.j5])
          | succ kj57 =>
           have H := HA.out
           clear HA
           simp only [brazierref19_Encode.j5] at H
           by_cases c64 : x125_57 = true
           ·subst c64
            have H1 : (if a0_1 ≥ 21 then (if a0_1 ≤ 23 then (some (Go.bits .or .u32 (Go.bits .or .u32 x6_17 1073741824) 33554432, true)) else (some (Go.bits .or .u32 x6_17 1073741824, true))) else (some (Go.bits .or .u32 x6_17 1073741824, true))) = some (r1, r2) := by rw [if_pos rfl] at H; exact H
            clear H
            have H := H1
            clear H1
            by_cases c65 : a0_1 ≥ 21
            ·rw [if_pos c65] at H
             have c65b0 : decide (21 ≤ a0_1) = true := decide_eq_true c65
             clear c65
             by_cases c66 : a0_1 ≤ 23
             ·rw [if_pos c66] at H
              have c66b0 : decide (a0_1 ≤ 23) = true := decide_eq_true c66
              clear c66
              simp only [Option.some.injEq, Prod.mk.injEq] at H
              obtain ⟨rfl, rfl⟩ := H
              have hcz67_0 : wc.cell? ⟨gb153, 0, none⟩ = some (.int .i64 a0_0) := (blk_cell BK153.out 0).trans rfl
              have hcz67_1 : wc.cell? ⟨gb153, 1, none⟩ = some (.int .i64 a0_1) := (blk_cell BK153.out 1).trans rfl
              have hcz67_2 : wc.cell? ⟨gb153, 2, none⟩ = some (.int .i64 a0_2) := (blk_cell BK153.out 2).trans rfl
              have hcz67_3 : wc.cell? ⟨gb153, 3, none⟩ = some (.int .i64 a0_3) := (blk_cell BK153.out 3).trans rfl
              have hcz67_4 : wc.cell? ⟨gb153, 4, none⟩ = some (.int .i64 a0_4) := (blk_cell BK153.out 4).trans rfl
              have hcz67_5 : wc.cell? ⟨gb153, 5, none⟩ = some (.int .i32 a0_5) := (blk_cell BK153.out 5).trans rfl
              have hcz67_6 : wc.cell? ⟨gb153, 6, none⟩ = some (.string a0_6) := (blk_cell BK153.out 6).trans rfl
              have hfz67_0 := blk_frozen BK153.out 0
              have hfz67_1 := blk_frozen BK153.out 1
              have hfz67_2 := blk_frozen BK153.out 2
              have hfz67_3 := blk_frozen BK153.out 3
              have hfz67_4 := blk_frozen BK153.out 4
              have hfz67_5 := blk_frozen BK153.out 5
              have hfz67_6 := blk_frozen BK153.out 6
              go_wp2
              go_ret2
              exact ⟨by rfl, by repeat ((with_reducible exact HB.out))⟩
             ·rw [if_neg c66] at H
              have c66b0 : decide (a0_1 ≤ 23) = false := decide_eq_false c66
              clear c66
              simp only [Option.some.injEq, Prod.mk.injEq] at H
              obtain ⟨rfl, rfl⟩ := H
              have hcz68_0 : wc.cell? ⟨gb153, 0, none⟩ = some (.int .i64 a0_0) := (blk_cell BK153.out 0).trans rfl
              have hcz68_1 : wc.cell? ⟨gb153, 1, none⟩ = some (.int .i64 a0_1) := (blk_cell BK153.out 1).trans rfl
              have hcz68_2 : wc.cell? ⟨gb153, 2, none⟩ = some (.int .i64 a0_2) := (blk_cell BK153.out 2).trans rfl
              have hcz68_3 : wc.cell? ⟨gb153, 3, none⟩ = some (.int .i64 a0_3) := (blk_cell BK153.out 3).trans rfl
              have hcz68_4 : wc.cell? ⟨gb153, 4, none⟩ = some (.int .i64 a0_4) := (blk_cell BK153.out 4).trans rfl
              have hcz68_5 : wc.cell? ⟨gb153, 5, none⟩ = some (.int .i32 a0_5) := (blk_cell BK153.out 5).trans rfl
              have hcz68_6 : wc.cell? ⟨gb153, 6, none⟩ = some (.string a0_6) := (blk_cell BK153.out 6).trans rfl
              have hfz68_0 := blk_frozen BK153.out 0
              have hfz68_1 := blk_frozen BK153.out 1
              have hfz68_2 := blk_frozen BK153.out 2
              have hfz68_3 := blk_frozen BK153.out 3
              have hfz68_4 := blk_frozen BK153.out 4
              have hfz68_5 := blk_frozen BK153.out 5
              have hfz68_6 := blk_frozen BK153.out 6
              go_wp2
              go_ret2
              exact ⟨by rfl, by repeat ((with_reducible exact HB.out))⟩
            ·rw [if_neg c65] at H
             have c65b0 : decide (21 ≤ a0_1) = false := decide_eq_false c65
             clear c65
             simp only [Option.some.injEq, Prod.mk.injEq] at H
             obtain ⟨rfl, rfl⟩ := H
             have hcz69_0 : wc.cell? ⟨gb153, 0, none⟩ = some (.int .i64 a0_0) := (blk_cell BK153.out 0).trans rfl
             have hcz69_1 : wc.cell? ⟨gb153, 1, none⟩ = some (.int .i64 a0_1) := (blk_cell BK153.out 1).trans rfl
             have hcz69_2 : wc.cell? ⟨gb153, 2, none⟩ = some (.int .i64 a0_2) := (blk_cell BK153.out 2).trans rfl
             have hcz69_3 : wc.cell? ⟨gb153, 3, none⟩ = some (.int .i64 a0_3) := (blk_cell BK153.out 3).trans rfl
             have hcz69_4 : wc.cell? ⟨gb153, 4, none⟩ = some (.int .i64 a0_4) := (blk_cell BK153.out 4).trans rfl
             have hcz69_5 : wc.cell? ⟨gb153, 5, none⟩ = some (.int .i32 a0_5) := (blk_cell BK153.out 5).trans rfl
             have hcz69_6 : wc.cell? ⟨gb153, 6, none⟩ = some (.string a0_6) := (blk_cell BK153.out 6).trans rfl
             have hfz69_0 := blk_frozen BK153.out 0
             have hfz69_1 := blk_frozen BK153.out 1
             have hfz69_2 := blk_frozen BK153.out 2
             have hfz69_3 := blk_frozen BK153.out 3
             have hfz69_4 := blk_frozen BK153.out 4
             have hfz69_5 := blk_frozen BK153.out 5
             have hfz69_6 := blk_frozen BK153.out 6
             go_wp2
             go_ret2
             exact ⟨by rfl, by repeat ((with_reducible exact HB.out))⟩
           ·replace c64 := Bool.eq_false_iff.mpr c64
            subst c64
            have H1 : (if a0_1 ≥ 21 then (if a0_1 ≤ 23 then (some (Go.bits .or .u32 x6_17 33554432, true)) else (some (x6_17, true))) else (some (x6_17, true))) = some (r1, r2) := by rw [if_neg (show ¬ (false = true) by decide)] at H; exact H
            clear H
            have H := H1
            clear H1
            by_cases c70 : a0_1 ≥ 21
            ·rw [if_pos c70] at H
             have c70b0 : decide (21 ≤ a0_1) = true := decide_eq_true c70
             clear c70
             by_cases c71 : a0_1 ≤ 23
             ·rw [if_pos c71] at H
              have c71b0 : decide (a0_1 ≤ 23) = true := decide_eq_true c71
              clear c71
              simp only [Option.some.injEq, Prod.mk.injEq] at H
              obtain ⟨rfl, rfl⟩ := H
              have hcz72_0 : wc.cell? ⟨gb153, 0, none⟩ = some (.int .i64 a0_0) := (blk_cell BK153.out 0).trans rfl
              have hcz72_1 : wc.cell? ⟨gb153, 1, none⟩ = some (.int .i64 a0_1) := (blk_cell BK153.out 1).trans rfl
              have hcz72_2 : wc.cell? ⟨gb153, 2, none⟩ = some (.int .i64 a0_2) := (blk_cell BK153.out 2).trans rfl
              have hcz72_3 : wc.cell? ⟨gb153, 3, none⟩ = some (.int .i64 a0_3) := (blk_cell BK153.out 3).trans rfl
              have hcz72_4 : wc.cell? ⟨gb153, 4, none⟩ = some (.int .i64 a0_4) := (blk_cell BK153.out 4).trans rfl
              have hcz72_5 : wc.cell? ⟨gb153, 5, none⟩ = some (.int .i32 a0_5) := (blk_cell BK153.out 5).trans rfl
              have hcz72_6 : wc.cell? ⟨gb153, 6, none⟩ = some (.string a0_6) := (blk_cell BK153.out 6).trans rfl
              have hfz72_0 := blk_frozen BK153.out 0
              have hfz72_1 := blk_frozen BK153.out 1
              have hfz72_2 := blk_frozen BK153.out 2
              have hfz72_3 := blk_frozen BK153.out 3
              have hfz72_4 := blk_frozen BK153.out 4
              have hfz72_5 := blk_frozen BK153.out 5
              have hfz72_6 := blk_frozen BK153.out 6
              go_wp2
              go_ret2
              exact ⟨by rfl, by repeat ((with_reducible exact HB.out))⟩
             ·rw [if_neg c71] at H
              have c71b0 : decide (a0_1 ≤ 23) = false := decide_eq_false c71
              clear c71
              simp only [Option.some.injEq, Prod.mk.injEq] at H
              obtain ⟨rfl, rfl⟩ := H
              have hcz73_0 : wc.cell? ⟨gb153, 0, none⟩ = some (.int .i64 a0_0) := (blk_cell BK153.out 0).trans rfl
              have hcz73_1 : wc.cell? ⟨gb153, 1, none⟩ = some (.int .i64 a0_1) := (blk_cell BK153.out 1).trans rfl
              have hcz73_2 : wc.cell? ⟨gb153, 2, none⟩ = some (.int .i64 a0_2) := (blk_cell BK153.out 2).trans rfl
              have hcz73_3 : wc.cell? ⟨gb153, 3, none⟩ = some (.int .i64 a0_3) := (blk_cell BK153.out 3).trans rfl
              have hcz73_4 : wc.cell? ⟨gb153, 4, none⟩ = some (.int .i64 a0_4) := (blk_cell BK153.out 4).trans rfl
              have hcz73_5 : wc.cell? ⟨gb153, 5, none⟩ = some (.int .i32 a0_5) := (blk_cell BK153.out 5).trans rfl
              have hcz73_6 : wc.cell? ⟨gb153, 6, none⟩ = some (.string a0_6) := (blk_cell BK153.out 6).trans rfl
              have hfz73_0 := blk_frozen BK153.out 0
              have hfz73_1 := blk_frozen BK153.out 1
              have hfz73_2 := blk_frozen BK153.out 2
              have hfz73_3 := blk_frozen BK153.out 3
              have hfz73_4 := blk_frozen BK153.out 4
              have hfz73_5 := blk_frozen BK153.out 5
              have hfz73_6 := blk_frozen BK153.out 6
              go_wp2
              go_ret2
              exact ⟨by rfl, by repeat ((with_reducible exact HB.out))⟩
            ·rw [if_neg c70] at H
             have c70b0 : decide (21 ≤ a0_1) = false := decide_eq_false c70
             clear c70
             simp only [Option.some.injEq, Prod.mk.injEq] at H
             obtain ⟨rfl, rfl⟩ := H
             have hcz74_0 : wc.cell? ⟨gb153, 0, none⟩ = some (.int .i64 a0_0) := (blk_cell BK153.out 0).trans rfl
             have hcz74_1 : wc.cell? ⟨gb153, 1, none⟩ = some (.int .i64 a0_1) := (blk_cell BK153.out 1).trans rfl
             have hcz74_2 : wc.cell? ⟨gb153, 2, none⟩ = some (.int .i64 a0_2) := (blk_cell BK153.out 2).trans rfl
             have hcz74_3 : wc.cell? ⟨gb153, 3, none⟩ = some (.int .i64 a0_3) := (blk_cell BK153.out 3).trans rfl
             have hcz74_4 : wc.cell? ⟨gb153, 4, none⟩ = some (.int .i64 a0_4) := (blk_cell BK153.out 4).trans rfl
             have hcz74_5 : wc.cell? ⟨gb153, 5, none⟩ = some (.int .i32 a0_5) := (blk_cell BK153.out 5).trans rfl
             have hcz74_6 : wc.cell? ⟨gb153, 6, none⟩ = some (.string a0_6) := (blk_cell BK153.out 6).trans rfl
             have hfz74_0 := blk_frozen BK153.out 0
             have hfz74_1 := blk_frozen BK153.out 1
             have hfz74_2 := blk_frozen BK153.out 2
             have hfz74_3 := blk_frozen BK153.out 3
             have hfz74_4 := blk_frozen BK153.out 4
             have hfz74_5 := blk_frozen BK153.out 5
             have hfz74_6 := blk_frozen BK153.out 6
             go_wp2
             go_ret2
             exact ⟨by rfl, by repeat ((with_reducible exact HB.out))⟩
      ·rw [if_neg c14] at H
       exact absurd H (by simp)
     ·rw [if_neg c13] at H
      exact absurd H (by simp)
    ·rw [if_neg c12] at H
     exact absurd H (by simp)

end Go.Proofs.Ytpoofggcodiaiaa.X
