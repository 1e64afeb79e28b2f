/- The walks: for each Go function a Lean function with the same answers, and the proof that the Go code comes to them; no condition beyond what each contract states. Written by this session's own program xprint.py (over the kit's print program); not one of print.sh's texts. -/
import Derived.Test.YtpoofggcodiaiaaX0
import Derived.Test.YtpoofggcodiaiaaX6
import Derived.Test.YtpoofggcodiaiaaX12
import Derived.Test.YtpoofggcodiaiaaX16
import Derived.Test.YtpoofggcodiaiaaX18
namespace Go.Proofs.Ytpoofggcodiaiaa.X
open Go.RowKit Go.Proofs.YtpoofggcodiaiaaW.PrintWords Go.Proofs.YtpoofggcodiaiaaW.PrintLast Go.Proofs.YtpoofggcodiaiaaW.PrintMore
attribute [local go_sem] max2_int min2_int max_two min_two max_three min_three max_four min_four   -- for this text's walks alone
set_option linter.unusedVariables false
set_option linter.unusedSimpArgs false

theorem xfar {w : World} {a : Addr} {j : Nat} {v : Value} {g : Nat} (h : w.cell? (a.add j) = some v) (hg : w.heap.size ≤ g) : (a.add j).block ≠ g :=
  Nat.ne_of_lt (Nat.lt_of_lt_of_le (World.block_lt_of_cell? _ _ h) hg)
private abbrev Y : Bool := true
private abbrev Z : Bool := false
/-! ### brazierlaw19_CodeBytes: function 6 -/
mutual
def brazierlaw19_CodeBytes.l0 : Nat → List (S23) → List Int → Bool → List (S23) → Int → Int → Option (Bool)
 | 0, _, _, _, _, _, _ => none
 | k + 1, x0, x1, x5, x28, x29, x30 => if x30 < x29 then (if 0 ≤ x30 then (if x30 < (x28.length : Int) then (if (((rd_T23 x28 x30).f6).size : Int) > 200 then ((brazierlaw19_lives.f k).bind fun t292 => (some t292)) else ((brazierref19_Encode.f k ((rd_T23 x28 x30).f0) ((rd_T23 x28 x30).f1) ((rd_T23 x28 x30).f2) ((rd_T23 x28 x30).f3) ((rd_T23 x28 x30).f4) ((rd_T23 x28 x30).f5) ((rd_T23 x28 x30).f6)).bind fun bt293 => (if x5 = true then (brazierlaw19_CodeBytes.l0 k x0 x1 bt293.2 x28 x29 (wrap64 (x30 + 1))) else (brazierlaw19_CodeBytes.l0 k x0 x1 false x28 x29 (wrap64 (x30 + 1)))))) else (none)) else (none)) else ((code_Bytes.f k x0).bind fun bt295 => (if (bt295.2 != x5) = true then (brazierlaw19_CodeBytes.j1 k x0 x1 bt295.1 bt295.2 true) else (if bt295.2 = true then (brazierlaw19_CodeBytes.j1 k x0 x1 bt295.1 bt295.2 false) else (brazierlaw19_CodeBytes.j1 k x0 x1 bt295.1 bt295.2 ((bt295.1.length : Int) != 0)))))
def brazierlaw19_CodeBytes.j1 : Nat → List (S23) → List Int → List Int → Bool → Bool → Option (Bool)
 | 0, _, _, _, _, _ => none
 | k + 1, x0, x1, x10, x11, x65 => if x65 = true then (some false) else (if x11 = true then ((some (([] : List Int) : List Int)).bind fun y299 => (if y299.length + x10.length < 140737488355328 then ((some (y299 ++ x10 : List Int)).bind fun y302 => ((some (([0, 0, 0] : List Int) : List Int)).bind fun y305 => (if y302.length + y305.length < 140737488355328 then ((code_Lines.f k (y302 ++ y305)).bind fun bt311 => (if bt311.2 = (wrap64 (4 * (x0.length : Int))) then (if (x10.length : Int) = bt311.2 then ((brazierlaw19_same.f k bt311.1 x0).bind fun t315 => (if t315 = true then (brazierlaw19_CodeBytes.j2 k x1) else (some false))) else (some false)) else (some false))) else (none)))) else (none))) else (brazierlaw19_CodeBytes.j2 k x1))
def brazierlaw19_CodeBytes.j2 : Nat → List Int → Option (Bool)
 | 0, _ => none
 | k + 1, x1 => (code_Lines.f k x1).bind fun bt316 => (if bt316.2 = (wrap64 (4 * (bt316.1.length : Int))) then (brazierlaw19_CodeBytes.j3 k x1 bt316.1 bt316.2 (decide (bt316.2 > (x1.length : Int)))) else (brazierlaw19_CodeBytes.j3 k x1 bt316.1 bt316.2 true))
def brazierlaw19_CodeBytes.j3 : Nat → List Int → List (S23) → Int → Bool → Option (Bool)
 | 0, _, _, _, _ => none
 | k + 1, x1, x14, x15, x108 => if x108 = true then (some false) else ((code_Bytes.f k x14).bind fun bt320 => (if bt320.2 = true then (if 0 ≤ x15 then (if x15 ≤ (x1.length : Int) then (brazierlaw19_CodeBytes.j4 k x1 x15 ((strOfNums bt320.1).toList != (strOfNums (x1.take (x15 : Int).toNat)).toList)) else (none)) else (none)) else (brazierlaw19_CodeBytes.j4 k x1 x15 true)))
def brazierlaw19_CodeBytes.j4 : Nat → List Int → Int → Bool → Option (Bool)
 | 0, _, _, _ => none
 | k + 1, x1, x15, x124 => if x124 = true then (some false) else (if (wrap64 ((x1.length : Int) - x15)) ≥ 4 then (if 0 ≤ x15 then (if x15 < (x1.length : Int) then (if 0 ≤ (wrap64 (x15 + 1)) then (if (wrap64 (x15 + 1)) < (x1.length : Int) then (if 0 ≤ (wrap64 (x15 + 2)) then (if (wrap64 (x15 + 2)) < (x1.length : Int) then (if 0 ≤ (wrap64 (x15 + 3)) then (if (wrap64 (x15 + 3)) < (x1.length : Int) then ((code_Decode.f k (Go.bits .or .u32 (Go.bits .or .u32 (Go.bits .or .u32 ((rd x1 x15) % 4294967296) ((((rd x1 (wrap64 (x15 + 1))) % 4294967296) * 256) % 4294967296)) ((((rd x1 (wrap64 (x15 + 2))) % 4294967296) * 65536) % 4294967296)) ((((rd x1 (wrap64 (x15 + 3))) % 4294967296) * 16777216) % 4294967296))).bind fun bt332 => (if bt332.2.2.2.2.2.2.2 = true then (some false) else ((brazierlaw19_lives.f k).bind fun t341 => (some t341)))) else (none)) else (none)) else (none)) else (none)) else (none)) else (none)) else (none)) else (none)) else ((brazierlaw19_lives.f k).bind fun t342 => (some t342)))
end
def brazierlaw19_CodeBytes.f (k : Nat) (l0 : List (S23)) (l1 : List Int) : Option (Bool) := if 0 ≤ (mn (l0.length : Int) 60) then (if (mn (l0.length : Int) 60) ≤ (l0.length : Int) then ((some (l0.take ((mn (l0.length : Int) 60) : Int).toNat : List (S23))).bind fun y282 => (if 0 ≤ (mn (l1.length : Int) 300) then (if (mn (l1.length : Int) 300) ≤ (l1.length : Int) then (brazierlaw19_CodeBytes.l0 k y282 (l1.take ((mn (l1.length : Int) 300) : Int).toNat) true y282 (y282.length : Int) 0) else (none)) else (none))) else (none)) else (none)
theorem brazierlaw19_CodeBytes.mono_l : ∀ k, (∀ y0 y1 y2 y3 y4 y5, LeO (brazierlaw19_CodeBytes.l0 k y0 y1 y2 y3 y4 y5) (brazierlaw19_CodeBytes.l0 (k + 1) y0 y1 y2 y3 y4 y5)) ∧ (∀ y0 y1 y2 y3 y4, LeO (brazierlaw19_CodeBytes.j1 k y0 y1 y2 y3 y4) (brazierlaw19_CodeBytes.j1 (k + 1) y0 y1 y2 y3 y4)) ∧ (∀ y0, LeO (brazierlaw19_CodeBytes.j2 k y0) (brazierlaw19_CodeBytes.j2 (k + 1) y0)) ∧ (∀ y0 y1 y2 y3, LeO (brazierlaw19_CodeBytes.j3 k y0 y1 y2 y3) (brazierlaw19_CodeBytes.j3 (k + 1) y0 y1 y2 y3)) ∧ (∀ y0 y1 y2, LeO (brazierlaw19_CodeBytes.j4 k y0 y1 y2) (brazierlaw19_CodeBytes.j4 (k + 1) y0 y1 y2))
 | 0 => ⟨fun _ _ _ _ _ _ r h => by simp [brazierlaw19_CodeBytes.l0] at h, fun _ _ _ _ _ r h => by simp [brazierlaw19_CodeBytes.j1] at h, fun _ r h => by simp [brazierlaw19_CodeBytes.j2] at h, fun _ _ _ _ r h => by simp [brazierlaw19_CodeBytes.j3] at h, fun _ _ _ r h => by simp [brazierlaw19_CodeBytes.j4] at h⟩
 | k + 1 => by
  obtain ⟨ih0, ih1, ih2, ih3, ih4⟩ := brazierlaw19_CodeBytes.mono_l k
  refine ⟨?_, ?_, ?_, ?_, ?_⟩
  ·intro y0 y1 y2 y3 y4 y5
   unfold brazierlaw19_CodeBytes.l0
   repeat' first
   | (with_reducible exact ih0 _ _ _ _ _ _)
   | (with_reducible exact ih1 _ _ _ _ _)
   | (with_reducible exact ih2 _)
   | (with_reducible exact ih3 _ _ _ _)
   | (with_reducible exact ih4 _ _ _)
   | (with_reducible exact brazierlaw19_lives.mono _)
   | (with_reducible exact brazierlaw19_same.mono _ _ _)
   | (with_reducible exact brazierref19_Encode.mono _ _ _ _ _ _ _ _)
   | (with_reducible exact code_Bytes.mono _ _)
   | (with_reducible exact code_Decode.mono _ _)
   | (with_reducible exact code_Lines.mono _ _)
   | (with_reducible exact LeO.refl _)
   | (with_reducible exact LeO.none _)
   | (with_reducible refine LeO.ite ?_ ?_)
   | (with_reducible refine LeO.bind ?_ (fun _ => ?_))
   | exact ih0 _ _ _ _ _ _
   | exact ih1 _ _ _ _ _
   | exact ih2 _
   | exact ih3 _ _ _ _
   | exact ih4 _ _ _
   | exact brazierlaw19_lives.mono _
   | exact brazierlaw19_same.mono _ _ _
   | exact brazierref19_Encode.mono _ _ _ _ _ _ _ _
   | exact code_Bytes.mono _ _
   | exact code_Decode.mono _ _
   | exact code_Lines.mono _ _
   | exact LeO.none _
   | refine LeO.ite ?_ ?_
   | refine LeO.bind ?_ (fun _ => ?_)
  ·intro y0 y1 y2 y3 y4
   unfold brazierlaw19_CodeBytes.j1
   repeat' first
   | (with_reducible exact ih0 _ _ _ _ _ _)
   | (with_reducible exact ih1 _ _ _ _ _)
   | (with_reducible exact ih2 _)
   | (with_reducible exact ih3 _ _ _ _)
   | (with_reducible exact ih4 _ _ _)
   | (with_reducible exact brazierlaw19_lives.mono _)
   | (with_reducible exact brazierlaw19_same.mono _ _ _)
   | (with_reducible exact brazierref19_Encode.mono _ _ _ _ _ _ _ _)
   | (with_reducible exact code_Bytes.mono _ _)
   | (with_reducible exact code_Decode.mono _ _)
   | (with_reducible exact code_Lines.mono _ _)
   | (with_reducible exact LeO.refl _)
   | (with_reducible exact LeO.none _)
   | (with_reducible refine LeO.ite ?_ ?_)
   | (with_reducible refine LeO.bind ?_ (fun _ => ?_))
   | exact ih0 _ _ _ _ _ _
   | exact ih1 _ _ _ _ _
   | exact ih2 _
   | exact ih3 _ _ _ _
   | exact ih4 _ _ _
   | exact brazierlaw19_lives.mono _
   | exact brazierlaw19_same.mono _ _ _
   | exact brazierref19_Encode.mono _ _ _ _ _ _ _ _
   | exact code_Bytes.mono _ _
   | exact code_Decode.mono _ _
   | exact code_Lines.mono _ _
   | exact LeO.none _
   | refine LeO.ite ?_ ?_
   | refine LeO.bind ?_ (fun _ => ?_)
  ·intro y0
   unfold brazierlaw19_CodeBytes.j2
   repeat' first
   | (with_reducible exact ih0 _ _ _ _ _ _)
   | (with_reducible exact ih1 _ _ _ _ _)
   | (with_reducible exact ih2 _)
   | (with_reducible exact ih3 _ _ _ _)
   | (with_reducible exact ih4 _ _ _)
   | (with_reducible exact brazierlaw19_lives.mono _)
   | (with_reducible exact brazierlaw19_same.mono _ _ _)
   | (with_reducible exact brazierref19_Encode.mono _ _ _ _ _ _ _ _)
   | (with_reducible exact code_Bytes.mono _ _)
   | (with_reducible exact code_Decode.mono _ _)
   | (with_reducible exact code_Lines.mono _ _)
   | (with_reducible exact LeO.refl _)
   | (with_reducible exact LeO.none _)
   | (with_reducible refine LeO.ite ?_ ?_)
   | (with_reducible refine LeO.bind ?_ (fun _ => ?_))
   | exact ih0 _ _ _ _ _ _
   | exact ih1 _ _ _ _ _
   | exact ih2 _
   | exact ih3 _ _ _ _
   | exact ih4 _ _ _
   | exact brazierlaw19_lives.mono _
   | exact brazierlaw19_same.mono _ _ _
   | exact brazierref19_Encode.mono _ _ _ _ _ _ _ _
   | exact code_Bytes.mono _ _
   | exact code_Decode.mono _ _
   | exact code_Lines.mono _ _
   | exact LeO.none _
   | refine LeO.ite ?_ ?_
   | refine LeO.bind ?_ (fun _ => ?_)
  ·intro y0 y1 y2 y3
   unfold brazierlaw19_CodeBytes.j3
   repeat' first
   | (with_reducible exact ih0 _ _ _ _ _ _)
   | (with_reducible exact ih1 _ _ _ _ _)
   | (with_reducible exact ih2 _)
   | (with_reducible exact ih3 _ _ _ _)
   | (with_reducible exact ih4 _ _ _)
   | (with_reducible exact brazierlaw19_lives.mono _)
   | (with_reducible exact brazierlaw19_same.mono _ _ _)
   | (with_reducible exact brazierref19_Encode.mono _ _ _ _ _ _ _ _)
   | (with_reducible exact code_Bytes.mono _ _)
   | (with_reducible exact code_Decode.mono _ _)
   | (with_reducible exact code_Lines.mono _ _)
   | (with_reducible exact LeO.refl _)
   | (with_reducible exact LeO.none _)
   | (with_reducible refine LeO.ite ?_ ?_)
   | (with_reducible refine LeO.bind ?_ (fun _ => ?_))
   | exact ih0 _ _ _ _ _ _
   | exact ih1 _ _ _ _ _
   | exact ih2 _
   | exact ih3 _ _ _ _
   | exact ih4 _ _ _
   | exact brazierlaw19_lives.mono _
   | exact brazierlaw19_same.mono _ _ _
   | exact brazierref19_Encode.mono _ _ _ _ _ _ _ _
   | exact code_Bytes.mono _ _
   | exact code_Decode.mono _ _
   | exact code_Lines.mono _ _
   | exact LeO.none _
   | refine LeO.ite ?_ ?_
   | refine LeO.bind ?_ (fun _ => ?_)
  ·intro y0 y1 y2
   unfold brazierlaw19_CodeBytes.j4
   repeat' first
   | (with_reducible exact ih0 _ _ _ _ _ _)
   | (with_reducible exact ih1 _ _ _ _ _)
   | (with_reducible exact ih2 _)
   | (with_reducible exact ih3 _ _ _ _)
   | (with_reducible exact ih4 _ _ _)
   | (with_reducible exact brazierlaw19_lives.mono _)
   | (with_reducible exact brazierlaw19_same.mono _ _ _)
   | (with_reducible exact brazierref19_Encode.mono _ _ _ _ _ _ _ _)
   | (with_reducible exact code_Bytes.mono _ _)
   | (with_reducible exact code_Decode.mono _ _)
   | (with_reducible exact code_Lines.mono _ _)
   | (with_reducible exact LeO.refl _)
   | (with_reducible exact LeO.none _)
   | (with_reducible refine LeO.ite ?_ ?_)
   | (with_reducible refine LeO.bind ?_ (fun _ => ?_))
   | exact ih0 _ _ _ _ _ _
   | exact ih1 _ _ _ _ _
   | exact ih2 _
   | exact ih3 _ _ _ _
   | exact ih4 _ _ _
   | exact brazierlaw19_lives.mono _
   | exact brazierlaw19_same.mono _ _ _
   | exact brazierref19_Encode.mono _ _ _ _ _ _ _ _
   | exact code_Bytes.mono _ _
   | exact code_Decode.mono _ _
   | exact code_Lines.mono _ _
   | exact LeO.none _
   | refine LeO.ite ?_ ?_
   | refine LeO.bind ?_ (fun _ => ?_)
theorem brazierlaw19_CodeBytes.mono : ∀ a0 a1 k, LeO (brazierlaw19_CodeBytes.f k a0 a1) (brazierlaw19_CodeBytes.f (k + 1) a0 a1) := by
 intro a0 a1 k
 obtain ⟨ih0, ih1, ih2, ih3, ih4⟩ := brazierlaw19_CodeBytes.mono_l k
 unfold brazierlaw19_CodeBytes.f
 repeat' first
   | (with_reducible exact ih0 _ _ _ _ _ _)
   | (with_reducible exact ih1 _ _ _ _ _)
   | (with_reducible exact ih2 _)
   | (with_reducible exact ih3 _ _ _ _)
   | (with_reducible exact ih4 _ _ _)
   | (with_reducible exact brazierlaw19_lives.mono _)
   | (with_reducible exact brazierlaw19_same.mono _ _ _)
   | (with_reducible exact brazierref19_Encode.mono _ _ _ _ _ _ _ _)
   | (with_reducible exact code_Bytes.mono _ _)
   | (with_reducible exact code_Decode.mono _ _)
   | (with_reducible exact code_Lines.mono _ _)
   | (with_reducible exact LeO.refl _)
   | (with_reducible exact LeO.none _)
   | (with_reducible refine LeO.ite ?_ ?_)
   | (with_reducible refine LeO.bind ?_ (fun _ => ?_))
   | exact ih0 _ _ _ _ _ _
   | exact ih1 _ _ _ _ _
   | exact ih2 _
   | exact ih3 _ _ _ _
   | exact ih4 _ _ _
   | exact brazierlaw19_lives.mono _
   | exact brazierlaw19_same.mono _ _ _
   | exact brazierref19_Encode.mono _ _ _ _ _ _ _ _
   | exact code_Bytes.mono _ _
   | exact code_Decode.mono _ _
   | exact code_Lines.mono _ _
   | exact LeO.none _
   | refine LeO.ite ?_ ?_
   | refine LeO.bind ?_ (fun _ => ?_)
def brazierlaw19_CodeBytes.T1 : Bool × List (List Nat × List Nat) := (true, [([], []), ([], []), ([1], [1]), ([2], [2]), ([0, 3], [0, 3]), ([], []), ([], []), ([6], [6]), ([7], [7]), ([5, 8], [5, 8]), ([4, 0, 1, 2, 3, 4], [0, 1, 4]), ([9, 10, 0, 1, 2, 3, 4, 5, 6, 7, 8, 9, 10], [5, 6, 9])])
def brazierlaw19_CodeBytes.B1 : List Nat := [0, 0, 2, 6, 15, 0, 0, 64, 192, 480, 31, 2047]
theorem brazierlaw19_CodeBytes.tab1 : rtab .any (opsOf Try.f6 1) = brazierlaw19_CodeBytes.T1 := by kernel_rfl
theorem brazierlaw19_CodeBytes.bits1 : waitsOk brazierlaw19_CodeBytes.T1.2 brazierlaw19_CodeBytes.B1 = true := by kernel_rfl
def brazierlaw19_CodeBytes.T22 : Bool × List (List Nat × List Nat) := (true, [([], []), ([0], [0]), ([1], [1]), ([2], [2]), ([3, 2], [2, 3]), ([2], [2]), ([2], [2]), ([5, 6, 2], [2, 5, 6]), ([7, 2], [2, 7]), ([4, 8, 2], [2, 4, 8]), ([2, 9], [2, 9])])
def brazierlaw19_CodeBytes.B22 : List Nat := [0, 1, 3, 7, 15, 7, 7, 103, 231, 511, 1023]
theorem brazierlaw19_CodeBytes.tab22 : rtab .any (opsOf Try.f6 22) = brazierlaw19_CodeBytes.T22 := by kernel_rfl
theorem brazierlaw19_CodeBytes.bits22 : waitsOk brazierlaw19_CodeBytes.T22.2 brazierlaw19_CodeBytes.B22 = true := by kernel_rfl
def brazierlaw19_CodeBytes.T25 : Bool × List (List Nat × List Nat) := (true, [([], []), ([], []), ([0, 1], [0, 1]), ([2], [2]), ([3], [3]), ([], []), ([], []), ([6], [6]), ([5, 7], [5, 7]), ([8], [8]), ([9], [9]), ([10], [10]), ([4, 11], [4, 11]), ([], []), ([], []), ([14], [14]), ([13, 15], [13, 15]), ([16], [16]), ([17], [17]), ([18], [18]), ([12, 19], [12, 19]), ([], []), ([], []), ([22], [22]), ([21, 23], [21, 23]), ([24], [24]), ([25], [25]), ([26], [26]), ([20, 27], [20, 27]), ([28], [28]), ([29], [29]), ([30], [30]), ([30], [30]), ([], []), ([33, 31, 29, 0, 1, 2, 3, 4, 5, 6, 7, 8, 9, 10, 11, 12, 13, 14, 15, 16, 17, 18, 19, 20, 21, 22, 23, 24, 25, 26, 27, 28, 29, 30, 31, 33], [31, 33]), ([32, 34, 0, 1, 2, 3, 4, 5, 6, 7, 8, 9, 10, 11, 12, 13, 14, 15, 16, 17, 18, 19, 20, 21, 22, 23, 24, 25, 26, 27, 28, 29, 30, 31, 32, 33, 34], [32])])
def brazierlaw19_CodeBytes.B25 : List Nat := [0, 0, 3, 7, 15, 0, 0, 64, 224, 480, 992, 2016, 4095, 0, 0, 16384, 57344, 122880, 253952, 516096, 1048575, 0, 0, 4194304, 14680064, 31457280, 65011712, 132120576, 268435455, 536870911, 1073741823, 2147483647, 2147483647, 0, 12884901887, 34359738367]
theorem brazierlaw19_CodeBytes.tab25 : rtab .any (opsOf Try.f6 25) = brazierlaw19_CodeBytes.T25 := by kernel_rfl
theorem brazierlaw19_CodeBytes.bits25 : waitsOk brazierlaw19_CodeBytes.T25.2 brazierlaw19_CodeBytes.B25 = true := by kernel_rfl
set_option maxHeartbeats 60000000 in
set_option maxRecDepth 100000 in
theorem brazierlaw19_CodeBytes.calls (k : Nat) (A0 : Option Addr) (c0 : Nat) (l0 : List (S23)) (A1 : Option Addr) (c1 : Nat) (l1 : List Int) (r : Bool) (w : World) (hr0 : Kd.C k23 w A0 l0.length l0) (hc0 : l0.length ≤ c0) (hr1 : Kd.C (Kd.int .u8) w A1 l1.length l1) (hc1 : l1.length ≤ c1) (h : brazierlaw19_CodeBytes.f k l0 l1 = some r) :
  Calls Try.prog 6 #[.slice A0 l0.length c0, .slice A1 l1.length c1] w fun e w' => e = .returned (.bool r) ∧ Below w.heap.size w w' := by
 have hu23 := Try.underlying23
 have HR0 := Aside0.mk hr0
 have HC0 := Aside0.mk hc0
 clear hr0 hc0
 have HR1 := Aside0.mk hr1
 have HC1 := Aside0.mk hc1
 clear hr1 hc1
 have HB := Aside0.mk (Below.refl w.heap.size w)
 have H : (if 0 ≤ (mn (l0.length : Int) 60) then (if (mn (l0.length : Int) 60) ≤ (l0.length : Int) then ((some (l0.take ((mn (l0.length : Int) 60) : Int).toNat : List (S23))).bind fun y282 => (if 0 ≤ (mn (l1.length : Int) 300) then (if (mn (l1.length : Int) 300) ≤ (l1.length : Int) then (brazierlaw19_CodeBytes.l0 k y282 (l1.take ((mn (l1.length : Int) 300) : Int).toNat) true y282 (y282.length : Int) 0) else (none)) else (none))) else (none)) else (none)) = some r := h
 clear h
 obtain ⟨ji3, hji3⟩ : ∃ j_ : Int, (mn (l0.length : Int) 60) = j_ := ⟨_, rfl⟩
 replace H : (if 0 ≤ (ji3) then (if (ji3) ≤ (l0.length : Int) then ((some (l0.take ((ji3) : Int).toNat : List (S23))).bind fun y282 => (if 0 ≤ (mn (l1.length : Int) 300) then (if (mn (l1.length : Int) 300) ≤ (l1.length : Int) then (brazierlaw19_CodeBytes.l0 k y282 (l1.take ((mn (l1.length : Int) 300) : Int).toNat) true y282 (y282.length : Int) 0) else (none)) else (none))) else (none)) else (none)) = some r := by (rw [hji3] at H; exact H)
 (try (have hji3h : ji3 ≤ 60 := by (rw [← hji3]; unfold mn; (repeat' split) <;> omega)))
 (try (have hji3g : ji3 ≤ 64 := by omega))
 (try (have hji3l : 0 ≤ ji3 := by (rw [← hji3]; unfold mn; (repeat' split) <;> omega)))
 (try (have hji3m : 0 ≤ ji3 := by omega))
 have hji3_ : (if 60 < (l0.length : Int) then 60 else (l0.length : Int)) = ji3 := hji3
 by_cases c4 : 0 ≤ (ji3)
 ·rw [if_pos c4] at H
  have c4b0 := eq_true c4
  have c4b1 : decide (0 ≤ (ji3)) = true := decide_eq_true c4
  clear c4
  by_cases c5 : (ji3) ≤ (l0.length : Int)
  ·rw [if_pos c5] at H
   have c5b0 := eq_true c5
   have c5b1 : decide ((ji3) ≤ (l0.length : Int)) = true := decide_eq_true c5
   clear c5
   obtain ⟨y282, hy282⟩ : ∃ y_ : List (S23), y_ = (l0.take ((ji3) : Int).toNat) := ⟨_, rfl⟩
   replace H : (if 0 ≤ (mn (l1.length : Int) 300) then (if (mn (l1.length : Int) 300) ≤ (l1.length : Int) then (brazierlaw19_CodeBytes.l0 k y282 (l1.take ((mn (l1.length : Int) 300) : Int).toNat) true y282 (y282.length : Int) 0) else (none)) else (none)) = some r := by (have H2_ := (Option.bind_some _ _).symm.trans H; rw [hy282]; with_reducible exact H2_)
   have Ny282 := Aside0.mk hy282
   clear hy282
   obtain ⟨ji6, hji6⟩ : ∃ j_ : Int, (mn (l1.length : Int) 300) = j_ := ⟨_, rfl⟩
   replace H : (if 0 ≤ (ji6) then (if (ji6) ≤ (l1.length : Int) then (brazierlaw19_CodeBytes.l0 k y282 (l1.take ((ji6) : Int).toNat) true y282 (y282.length : Int) 0) else (none)) else (none)) = some r := by (rw [hji6] at H; exact H)
   (try (have hji6h : ji6 ≤ 300 := by (rw [← hji6]; unfold mn; (repeat' split) <;> omega)))
   (try (have hji6l : 0 ≤ ji6 := by (rw [← hji6]; unfold mn; (repeat' split) <;> omega)))
   (try (have hji6m : 0 ≤ ji6 := by omega))
   have hji6_ : (if 300 < (l1.length : Int) then 300 else (l1.length : Int)) = ji6 := hji6
   by_cases c7 : 0 ≤ (ji6)
   ·rw [if_pos c7] at H
    have c7b0 := eq_true c7
    have c7b1 : decide (0 ≤ (ji6)) = true := decide_eq_true c7
    clear c7
    by_cases c8 : (ji6) ≤ (l1.length : Int)
    ·rw [if_pos c8] at H
     have c8b0 := eq_true c8
     have c8b1 : decide ((ji6) ≤ (l1.length : Int)) = true := decide_eq_true c8
     clear c8
     obtain ⟨y286, hy286⟩ : ∃ y_ : List Int, y_ = (l1.take ((ji6) : Int).toNat) := ⟨_, rfl⟩
     replace H : (brazierlaw19_CodeBytes.l0 k y282 y286 true y282 (y282.length : Int) 0) = some r := by (rw [hy286]; with_reducible exact H)
     have Ny286 := Aside0.mk hy286
     clear hy286
     have H' := Aside0.mk H
     clear H
     go_enter Try.func6, Try.ntmps6
     try go_wp2
     have n0_ := Aside0.mk (below_drew1 HB.out)
     clear HB
     have HB := n0_
     clear n0_
     have q10 : ((ji3) : Int) ≤ ((l0.length : Int) : Int) := of_decide_eq_true (by (with_reducible assumption))
     obtain ⟨i010, hi010, _, hsz10, _⟩ := info_parts info23
     have hroom10 : l0.length ≤ c0 := HC0.out
     have hC10 : Kd.C k23 _ A0 l0.length l0 := HR0.out
     have hcut10 := cut_to (P := Try.prog) 33 23 .i64 Try.underlying33 hi010 A0 l0.length c0 (ji3) (of_decide_eq_true (by (with_reducible assumption))) q10 hroom10
     have hr10 := Kd.C_take (m := ((ji3) : Int).toNat) hC10 (by omega)
     have hy10 : y282.length = ((ji3) : Int).toNat := (by rw [Ny282.out, List.length_take]; omega)
     rw [← Ny282.out] at hr10
     rw [← hy10] at hcut10
     have HR285 := Aside0.mk hr10
     have HC285 := Aside0.mk (show y282.length ≤ c0 from by omega)
     clear hr10 hC10 hroom10 hi010 hsz10
     have KY10 := Aside0.mk hy10
     clear hy10
     replace q10 := eq_true q10
     have q11 : ((ji6) : Int) ≤ ((l1.length : Int) : Int) := of_decide_eq_true (by (with_reducible assumption))
     obtain ⟨i011, hi011, _, hsz11, _⟩ := info_parts info5
     have hroom11 : l1.length ≤ c1 := HC1.out
     have hC11 : Kd.C (Kd.int .u8) _ A1 l1.length l1 := HR1.out
     have hcut11 := cut_to (P := Try.prog) 34 5 .i64 Try.underlying34 hi011 A1 l1.length c1 (ji6) (of_decide_eq_true (by (with_reducible assumption))) q11 hroom11
     have hr11 := Kd.C_take (m := ((ji6) : Int).toNat) hC11 (by omega)
     have hy11 : y286.length = ((ji6) : Int).toNat := (by rw [Ny286.out, List.length_take]; omega)
     rw [← Ny286.out] at hr11
     rw [← hy11] at hcut11
     have HR289 := Aside0.mk hr11
     have HC289 := Aside0.mk (show y286.length ≤ c1 from by omega)
     clear hr11 hC11 hroom11 hi011 hsz11
     have KY11 := Aside0.mk hy11
     clear hy11
     replace q11 := eq_true q11
     refine start_ (n := 12) (S := fun w' => True) (ds := []) #[Z, Z, Z, Z, Z, Z, Z, Z, Z, Z, Z, Z] (by kernel_rfl) rfl rfl trivial (fun hHeld => ?_); refine with_tabW brazierlaw19_CodeBytes.tab1 brazierlaw19_CodeBytes.bits1 (fun HT_ HW_ => ?_)
     generalize w.drew = w9 at HB HR285 HR289 hHeld ⊢
     refine pure_ (i := 0) (N := some 18) (v := ?_) (a' := ?_) #[Y, Z, Z, Z, Z, Z, Z, Z, Z, Z, Z, Z] rfl rfl (any_of HT_.out (by kernel_rfl)) (fun _ _ _ h => h) (Or.inl ⟨by rfl, ?_⟩) ?_ ?_
     rotate_left
     ·intro w'
      go_simp
      with_reducible rfl
     rotate_left
     ·simp only [Act.put, List.setIfInBounds_toArray, List.set_cons_zero, List.set_cons_succ, i64_w, i32_w]
      rfl
     refine pure_ (i := 1) (N := some 19) (v := ?_) (a' := ?_) #[Y, Y, Z, Z, Z, Z, Z, Z, Z, Z, Z, Z] rfl rfl (any_of HT_.out (by kernel_rfl)) (fun _ _ _ h => h) (Or.inl ⟨by rfl, ?_⟩) ?_ ?_
     rotate_left
     ·intro w'
      go_simp
      with_reducible rfl
     rotate_left
     ·simp only [Act.put, List.setIfInBounds_toArray, List.set_cons_zero, List.set_cons_succ, i64_w, i32_w]
      rfl
     refine pure_ (i := 2) (N := some 20) (v := ?_) (a' := ?_) #[Y, Y, Y, Z, Z, Z, Z, Z, Z, Z, Z, Z] rfl rfl (any_of HT_.out (by kernel_rfl)) (fun _ _ _ h => h) (Or.inl ⟨by rfl, ?_⟩) ?_ ?_
     rotate_left
     ·intro w'
      go_simp
      with_reducible rfl
     rotate_left
     ·simp only [Act.put, List.setIfInBounds_toArray, List.set_cons_zero, List.set_cons_succ, i64_w, i32_w]
      rfl
     refine pure_ (i := 3) (N := some 21) (v := ?_) (a' := ?_) #[Y, Y, Y, Y, Z, Z, Z, Z, Z, Z, Z, Z] rfl rfl (any_of HT_.out (by kernel_rfl)) (fun _ _ _ h => h) (Or.inl ⟨by rfl, ?_⟩) ?_ ?_
     rotate_left
     ·intro w'
      go_simp
      with_reducible rfl
     rotate_left
     ·simp only [Act.put, List.setIfInBounds_toArray, List.set_cons_zero, List.set_cons_succ, i64_w, i32_w]
      rfl
     refine pure_ (i := 4) (N := some 22) (v := ?_) (a' := ?_) #[Y, Y, Y, Y, Y, Z, Z, Z, Z, Z, Z, Z] rfl rfl (any_of HT_.out (by kernel_rfl)) (fun _ _ _ h => h) (Or.inl ⟨by rfl, ?_⟩) ?_ ?_
     rotate_left
     ·intro w'
      go_simp
      with_reducible rfl
     rotate_left
     ·simp only [Act.put, List.setIfInBounds_toArray, List.set_cons_zero, List.set_cons_succ, i64_w, i32_w]
      rfl
     refine pure_ (i := 5) (N := some 23) (v := ?_) (a' := ?_) #[Y, Y, Y, Y, Y, Y, Z, Z, Z, Z, Z, Z] rfl rfl (any_of HT_.out (by kernel_rfl)) (fun _ _ _ h => h) (Or.inl ⟨by rfl, ?_⟩) ?_ ?_
     rotate_left
     ·intro w'
      go_simp
      with_reducible rfl
     rotate_left
     ·simp only [Act.put, List.setIfInBounds_toArray, List.set_cons_zero, List.set_cons_succ, i64_w, i32_w]
      rfl
     refine pure_ (i := 6) (N := some 24) (v := ?_) (a' := ?_) #[Y, Y, Y, Y, Y, Y, Y, Z, Z, Z, Z, Z] rfl rfl (any_of HT_.out (by kernel_rfl)) (fun _ _ _ h => h) (Or.inl ⟨by rfl, ?_⟩) ?_ ?_
     rotate_left
     ·intro w'
      go_simp
      with_reducible rfl
     rotate_left
     ·simp only [Act.put, List.setIfInBounds_toArray, List.set_cons_zero, List.set_cons_succ, i64_w, i32_w]
      rfl
     refine pure_ (i := 7) (N := some 25) (v := ?_) (a' := ?_) #[Y, Y, Y, Y, Y, Y, Y, Y, Z, Z, Z, Z] rfl rfl (any_of HT_.out (by kernel_rfl)) (fun _ _ _ h => h) (Or.inl ⟨by rfl, ?_⟩) ?_ ?_
     rotate_left
     ·intro w'
      go_simp
      with_reducible rfl
     rotate_left
     ·simp only [Act.put, List.setIfInBounds_toArray, List.set_cons_zero, List.set_cons_succ, i64_w, i32_w]
      rfl
     refine pure_ (i := 8) (N := some 26) (v := ?_) (a' := ?_) #[Y, Y, Y, Y, Y, Y, Y, Y, Y, Z, Z, Z] rfl rfl (any_of HT_.out (by kernel_rfl)) (fun _ _ _ h => h) (Or.inl ⟨by rfl, ?_⟩) ?_ ?_
     rotate_left
     ·intro w'
      go_simp
      with_reducible rfl
     rotate_left
     ·simp only [Act.put, List.setIfInBounds_toArray, List.set_cons_zero, List.set_cons_succ, i64_w, i32_w]
      rfl
     refine pure_ (i := 9) (N := some 27) (v := ?_) (a' := ?_) #[Y, Y, Y, Y, Y, Y, Y, Y, Y, Y, Z, Z] rfl rfl (any_of HT_.out (by kernel_rfl)) (fun _ _ _ h => h) (Or.inl ⟨by rfl, ?_⟩) ?_ ?_
     rotate_left
     ·intro w'
      go_simp
      with_reducible rfl
     rotate_left
     ·simp only [Act.put, List.setIfInBounds_toArray, List.set_cons_zero, List.set_cons_succ, i64_w, i32_w]
      rfl
     refine pure_ (i := 10) (N := some 0) (v := ?_) (a' := ?_) #[Y, Y, Y, Y, Y, Y, Y, Y, Y, Y, Y, Z] rfl rfl (any_of HT_.out (by kernel_rfl)) (fun _ _ _ h => h) (Or.inl ⟨by rfl, ?_⟩) ?_ ?_
     rotate_left
     ·intro w'
      go_simp
      with_reducible rfl
     rotate_left
     ·simp only [Act.put, List.setIfInBounds_toArray, List.set_cons_zero, List.set_cons_succ, i64_w, i32_w]
      rfl
     refine pure_ (i := 11) (N := some 1) (v := ?_) (a' := ?_) #[Y, Y, Y, Y, Y, Y, Y, Y, Y, Y, Y, Y] rfl rfl (any_of HT_.out (by kernel_rfl)) (fun _ _ _ h => h) (Or.inl ⟨by rfl, ?_⟩) ?_ ?_
     rotate_left
     ·intro w'
      go_simp
      with_reducible rfl
     rotate_left
     ·simp only [Act.put, List.setIfInBounds_toArray, List.set_cons_zero, List.set_cons_succ, i64_w, i32_w]
      rfl
     refine done_ (done_of HT_.out (by kernel_rfl)) ?_
     try go_wp2
     go_loopg [5, 30] k (fun kq v5 v30 w' => ∃ (x5_1 : Bool) (x30_1 : Int), v5 = .bool x5_1 ∧ v30 = .int .i64 x30_1 ∧ Aside0 (brazierlaw19_CodeBytes.l0 kq y282 y286 x5_1 y282 (y282.length : Int) x30_1 = some r) ∧ Aside0 (kq ≤ k) ∧ Aside0 (Below w.heap.size w w'))
     case atStart => exact ⟨(true), (0), (by rfl), (by rfl), H', ⟨Nat.le_refl _⟩, ⟨by repeat ((with_reducible exact HB.out))⟩⟩
     case round =>
      clear H' c4b0 c4b1 c5b0 c5b1 c7b0 c7b1 c8b0 c8b1 q10 q11
      obtain ⟨x5_1, x30_1, rfl, rfl, HA, HK1, HB⟩ := hrel
      cases gk with
      | zero => exact absurd HA.out (by simp [brazierlaw19_CodeBytes.l0])
      | succ k1 =>
       have H := HA.out
       clear HA
       simp only [brazierlaw19_CodeBytes.l0] at H
       by_cases c12 : x30_1 < (y282.length : Int)
       ·rw [if_pos c12] at H
        have c12b0 : decide (x30_1 < (y282.length : Int)) = true := decide_eq_true c12
        clear c12
        by_cases c13 : 0 ≤ x30_1
        ·rw [if_pos c13] at H
         have c13b0 : decide (0 ≤ x30_1) = true := decide_eq_true c13
         clear c13
         by_cases c14 : x30_1 < (y282.length : Int)
         ·rw [if_pos c14] at H
          have c14b0 : decide (x30_1 < (y282.length : Int)) = true := decide_eq_true c14
          clear c14
          by_cases c15 : (((rd_T23 y282 x30_1).f6).size : Int) > 200
          ·rw [if_pos c15] at H
           have c15b0 : decide (200 < (((rd_T23 y282 x30_1).f6).size : Int)) = true := decide_eq_true c15
           have c15b1 : decide (200 < ((rd_T23 y282 x30_1).f6).size) = true := decide_eq_true (by omega)
           clear c15
           replace H := Option.bind_eq_some_iff.mp H
           obtain ⟨t292, A160, H⟩ := H
           replace H : (some t292) = some r := H
           have A16 := Aside0.mk A160
           clear A160
           obtain rfl := Option.some.inj H
           have p290 : 0 ≤ (x30_1 : Int) := of_decide_eq_true (by (with_reducible assumption))
           have q290 : x30_1 < (y282.length : Int) := of_decide_eq_true (by (with_reducible assumption))
           obtain ⟨ad290, e290, hx290_0, hx290_1, hx290_2, hx290_3, hx290_4, hx290_5, hx290_6⟩ := at_T23 HR285.out x30_1 p290 q290
           cases e290
           replace hx290_0 := (HB.out.cell (World.block_lt_of_cell? w _ hx290_0)).trans hx290_0
           replace hx290_1 := (HB.out.cell (World.block_lt_of_cell? w _ hx290_1)).trans hx290_1
           replace hx290_2 := (HB.out.cell (World.block_lt_of_cell? w _ hx290_2)).trans hx290_2
           replace hx290_3 := (HB.out.cell (World.block_lt_of_cell? w _ hx290_3)).trans hx290_3
           replace hx290_4 := (HB.out.cell (World.block_lt_of_cell? w _ hx290_4)).trans hx290_4
           replace hx290_5 := (HB.out.cell (World.block_lt_of_cell? w _ hx290_5)).trans hx290_5
           replace hx290_6 := (HB.out.cell (World.block_lt_of_cell? w _ hx290_6)).trans hx290_6
           replace p290 := eq_true p290
           replace q290 := eq_true q290
           go_wp2_with (first | ((with_reducible refine gate_dst (N := 7) rfl ?_); (try (refine gate_guard (by rfl) ?_; dsimp only)); refine box_event ?hg (N := 7) ?hd (cs := #[.int .i64 0, .int .i64 0, .int .i64 0, .int .i64 0, .int .i64 0, .int .i32 0, .string (⟨#[]⟩ : ByteArray)]) (t := 23) ?hr ?_; (case hd => rfl); (case hg => rfl); (case hr => (go_simp; done)); intro gb291 hg w17 hbox hb; have n0_ := Aside0.mk (below_step (by repeat ((with_reducible exact HB.out))) hb); have n1_ := Aside0.mk (hbox); have n2_ := Aside0.mk ((by rw [hg]; exact (below_size (by repeat ((with_reducible exact HB.out)))) : w.heap.size ≤ gb291)); have n3_ := Aside0.mk ((by rw [hg]; exact (below_size (by repeat ((with_reducible exact HB.out)))) : w.heap.size ≤ gb291)); clear HB; have HB := n0_; have BK291 := n1_; have GW291 := n2_; have GE291 := n3_; clear n0_ n1_ n2_ n3_; clear hb hbox hg; have hcz18_0 : w17.cell? ⟨gb291, 0, none⟩ = some (.int .i64 0) := (blk_cell BK291.out 0).trans rfl; have hcz18_1 : w17.cell? ⟨gb291, 1, none⟩ = some (.int .i64 0) := (blk_cell BK291.out 1).trans rfl; have hcz18_2 : w17.cell? ⟨gb291, 2, none⟩ = some (.int .i64 0) := (blk_cell BK291.out 2).trans rfl; have hcz18_3 : w17.cell? ⟨gb291, 3, none⟩ = some (.int .i64 0) := (blk_cell BK291.out 3).trans rfl; have hcz18_4 : w17.cell? ⟨gb291, 4, none⟩ = some (.int .i64 0) := (blk_cell BK291.out 4).trans rfl; have hcz18_5 : w17.cell? ⟨gb291, 5, none⟩ = some (.int .i32 0) := (blk_cell BK291.out 5).trans rfl; have hcz18_6 : w17.cell? ⟨gb291, 6, none⟩ = some (.string (⟨#[]⟩ : ByteArray)) := (blk_cell BK291.out 6).trans rfl; have hfz18_0 := blk_frozen BK291.out 0; have hfz18_1 := blk_frozen BK291.out 1; have hfz18_2 := blk_frozen BK291.out 2; have hfz18_3 := blk_frozen BK291.out 3; have hfz18_4 := blk_frozen BK291.out 4; have hfz18_5 := blk_frozen BK291.out 5; have hfz18_6 := blk_frozen BK291.out 6) | ((with_reducible refine gate_callee (f := 7) rfl ?_); refine goesL_ (some 38) rfl rfl Try.func7 (by kernel_rfl) rfl #[] rfl (by (try simp only [List.map_toArray, List.map_cons, List.map_nil]); done) ?_; (with_reducible refine (brazierlaw19_lives.calls k1  t292 _ A16.out).mono ?_); rintro e w19 ⟨rfl, hb⟩; refine ⟨_, rfl, ?_⟩; have n0_ := Aside0.mk (blk_below (g := gb291) (o := .cells #[.int .i64 ((rd_T23 y282 x30_1).f0), .int .i64 ((rd_T23 y282 x30_1).f1), .int .i64 ((rd_T23 y282 x30_1).f2), .int .i64 ((rd_T23 y282 x30_1).f3), .int .i64 ((rd_T23 y282 x30_1).f4), .int .i32 ((rd_T23 y282 x30_1).f5), .string ((rd_T23 y282 x30_1).f6)] 23 (0, 0)) (by (with_reducible repeat (fail)); refine blk_put (cs := #[.int .i64 ((rd_T23 y282 x30_1).f0), .int .i64 ((rd_T23 y282 x30_1).f1), .int .i64 ((rd_T23 y282 x30_1).f2), .int .i64 ((rd_T23 y282 x30_1).f3), .int .i64 ((rd_T23 y282 x30_1).f4), .int .i32 ((rd_T23 y282 x30_1).f5), .string (⟨#[]⟩ : ByteArray)]) ?_ 6 _ rfl; (with_reducible repeat (fail)); refine blk_put (cs := #[.int .i64 ((rd_T23 y282 x30_1).f0), .int .i64 ((rd_T23 y282 x30_1).f1), .int .i64 ((rd_T23 y282 x30_1).f2), .int .i64 ((rd_T23 y282 x30_1).f3), .int .i64 ((rd_T23 y282 x30_1).f4), .int .i32 0, .string (⟨#[]⟩ : ByteArray)]) ?_ 5 _ rfl; (with_reducible repeat (fail)); refine blk_put (cs := #[.int .i64 ((rd_T23 y282 x30_1).f0), .int .i64 ((rd_T23 y282 x30_1).f1), .int .i64 ((rd_T23 y282 x30_1).f2), .int .i64 ((rd_T23 y282 x30_1).f3), .int .i64 0, .int .i32 0, .string (⟨#[]⟩ : ByteArray)]) ?_ 4 _ rfl; (with_reducible repeat (fail)); refine blk_put (cs := #[.int .i64 ((rd_T23 y282 x30_1).f0), .int .i64 ((rd_T23 y282 x30_1).f1), .int .i64 ((rd_T23 y282 x30_1).f2), .int .i64 0, .int .i64 0, .int .i32 0, .string (⟨#[]⟩ : ByteArray)]) ?_ 3 _ rfl; (with_reducible repeat (fail)); refine blk_put (cs := #[.int .i64 ((rd_T23 y282 x30_1).f0), .int .i64 ((rd_T23 y282 x30_1).f1), .int .i64 0, .int .i64 0, .int .i64 0, .int .i32 0, .string (⟨#[]⟩ : ByteArray)]) ?_ 2 _ rfl; (with_reducible repeat (fail)); refine blk_put (cs := #[.int .i64 ((rd_T23 y282 x30_1).f0), .int .i64 0, .int .i64 0, .int .i64 0, .int .i64 0, .int .i32 0, .string (⟨#[]⟩ : ByteArray)]) ?_ 1 _ rfl; (with_reducible repeat (fail)); refine blk_put (cs := #[.int .i64 0, .int .i64 0, .int .i64 0, .int .i64 0, .int .i64 0, .int .i32 0, .string (⟨#[]⟩ : ByteArray)]) ?_ 0 _ rfl; (with_reducible repeat (fail)); exact BK291.out) hb); have n1_ := Aside0.mk (below_step (by repeat ((with_reducible first | exact HB.out | refine below_set ?_ GE291.out))) hb); clear BK291; clear HB; have BK291 := n0_; have HB := n1_; clear n0_ n1_; (try clear hb)))
           go_ret
           exact ⟨by rfl, by repeat ((with_reducible exact HB.out))⟩
          ·rw [if_neg c15] at H
           have c15b0 : decide (200 < (((rd_T23 y282 x30_1).f6).size : Int)) = false := decide_eq_false c15
           have c15b1 : decide (200 < ((rd_T23 y282 x30_1).f6).size) = false := decide_eq_false (by omega)
           clear c15
           replace H := Option.bind_eq_some_iff.mp H
           obtain ⟨⟨t293, t294⟩, A200, H⟩ := H
           replace H : (if x5_1 = true then (brazierlaw19_CodeBytes.l0 k1 y282 y286 t294 y282 (y282.length : Int) (wrap64 (x30_1 + 1))) else (brazierlaw19_CodeBytes.l0 k1 y282 y286 false y282 (y282.length : Int) (wrap64 (x30_1 + 1)))) = some r := H
           have A20 := Aside0.mk A200
           clear A200
           by_cases c21 : x5_1 = true
           ·subst c21
            have H1 : (brazierlaw19_CodeBytes.l0 k1 y282 y286 t294 y282 (y282.length : Int) (wrap64 (x30_1 + 1))) = some r := by rw [if_pos rfl] at H; exact H
            clear H
            have H := H1
            clear H1
            have H' := Aside0.mk H
            clear H
            have p290 : 0 ≤ (x30_1 : Int) := of_decide_eq_true (by (with_reducible assumption))
            have q290 : x30_1 < (y282.length : Int) := of_decide_eq_true (by (with_reducible assumption))
            obtain ⟨ad290, e290, hx290_0, hx290_1, hx290_2, hx290_3, hx290_4, hx290_5, hx290_6⟩ := at_T23 HR285.out x30_1 p290 q290
            cases e290
            replace hx290_0 := (HB.out.cell (World.block_lt_of_cell? w _ hx290_0)).trans hx290_0
            replace hx290_1 := (HB.out.cell (World.block_lt_of_cell? w _ hx290_1)).trans hx290_1
            replace hx290_2 := (HB.out.cell (World.block_lt_of_cell? w _ hx290_2)).trans hx290_2
            replace hx290_3 := (HB.out.cell (World.block_lt_of_cell? w _ hx290_3)).trans hx290_3
            replace hx290_4 := (HB.out.cell (World.block_lt_of_cell? w _ hx290_4)).trans hx290_4
            replace hx290_5 := (HB.out.cell (World.block_lt_of_cell? w _ hx290_5)).trans hx290_5
            replace hx290_6 := (HB.out.cell (World.block_lt_of_cell? w _ hx290_6)).trans hx290_6
            replace p290 := eq_true p290
            replace q290 := eq_true q290
            go_wp2_with (first | ((with_reducible refine gate_dst (N := 7) rfl ?_); (try (refine gate_guard (by rfl) ?_; dsimp only)); refine box_event ?hg (N := 7) ?hd (cs := #[.int .i64 0, .int .i64 0, .int .i64 0, .int .i64 0, .int .i64 0, .int .i32 0, .string (⟨#[]⟩ : ByteArray)]) (t := 23) ?hr ?_; (case hd => rfl); (case hg => rfl); (case hr => (go_simp; done)); intro gb291 hg w22 hbox hb; have n0_ := Aside0.mk (below_step (by repeat ((with_reducible exact HB.out))) hb); have n1_ := Aside0.mk (hbox); have n2_ := Aside0.mk ((by rw [hg]; exact (below_size (by repeat ((with_reducible exact HB.out)))) : w.heap.size ≤ gb291)); have n3_ := Aside0.mk ((by rw [hg]; exact (below_size (by repeat ((with_reducible exact HB.out)))) : w.heap.size ≤ gb291)); clear HB; have HB := n0_; have BK291 := n1_; have GW291 := n2_; have GE291 := n3_; clear n0_ n1_ n2_ n3_; clear hb hbox hg; have hcz23_0 : w22.cell? ⟨gb291, 0, none⟩ = some (.int .i64 0) := (blk_cell BK291.out 0).trans rfl; have hcz23_1 : w22.cell? ⟨gb291, 1, none⟩ = some (.int .i64 0) := (blk_cell BK291.out 1).trans rfl; have hcz23_2 : w22.cell? ⟨gb291, 2, none⟩ = some (.int .i64 0) := (blk_cell BK291.out 2).trans rfl; have hcz23_3 : w22.cell? ⟨gb291, 3, none⟩ = some (.int .i64 0) := (blk_cell BK291.out 3).trans rfl; have hcz23_4 : w22.cell? ⟨gb291, 4, none⟩ = some (.int .i64 0) := (blk_cell BK291.out 4).trans rfl; have hcz23_5 : w22.cell? ⟨gb291, 5, none⟩ = some (.int .i32 0) := (blk_cell BK291.out 5).trans rfl; have hcz23_6 : w22.cell? ⟨gb291, 6, none⟩ = some (.string (⟨#[]⟩ : ByteArray)) := (blk_cell BK291.out 6).trans rfl; have hfz23_0 := blk_frozen BK291.out 0; have hfz23_1 := blk_frozen BK291.out 1; have hfz23_2 := blk_frozen BK291.out 2; have hfz23_3 := blk_frozen BK291.out 3; have hfz23_4 := blk_frozen BK291.out 4; have hfz23_5 := blk_frozen BK291.out 5; have hfz23_6 := blk_frozen BK291.out 6) | ((with_reducible refine gate_callee (f := 9) rfl ?_); refine goesL_ (some 41) rfl rfl Try.func9 (by kernel_rfl) rfl #[.agg #[.int .i64 ((rd_T23 y282 x30_1).f0), .int .i64 ((rd_T23 y282 x30_1).f1), .int .i64 ((rd_T23 y282 x30_1).f2), .int .i64 ((rd_T23 y282 x30_1).f3), .int .i64 ((rd_T23 y282 x30_1).f4), .int .i32 ((rd_T23 y282 x30_1).f5), .string ((rd_T23 y282 x30_1).f6)]] rfl (by (try simp only [List.map_toArray, List.map_cons, List.map_nil]); rfl) ?_; (with_reducible refine (brazierref19_Encode.calls k1 ((rd_T23 y282 x30_1).f0) ((rd_T23 y282 x30_1).f1) ((rd_T23 y282 x30_1).f2) ((rd_T23 y282 x30_1).f3) ((rd_T23 y282 x30_1).f4) ((rd_T23 y282 x30_1).f5) ((rd_T23 y282 x30_1).f6) t293 t294 _ A20.out).mono ?_); rintro e w24 ⟨rfl, hb⟩; refine ⟨_, rfl, ?_⟩; have n0_ := Aside0.mk (blk_below (g := gb291) (o := .cells #[.int .i64 ((rd_T23 y282 x30_1).f0), .int .i64 ((rd_T23 y282 x30_1).f1), .int .i64 ((rd_T23 y282 x30_1).f2), .int .i64 ((rd_T23 y282 x30_1).f3), .int .i64 ((rd_T23 y282 x30_1).f4), .int .i32 ((rd_T23 y282 x30_1).f5), .string ((rd_T23 y282 x30_1).f6)] 23 (0, 0)) (by (with_reducible repeat (fail)); refine blk_put (cs := #[.int .i64 ((rd_T23 y282 x30_1).f0), .int .i64 ((rd_T23 y282 x30_1).f1), .int .i64 ((rd_T23 y282 x30_1).f2), .int .i64 ((rd_T23 y282 x30_1).f3), .int .i64 ((rd_T23 y282 x30_1).f4), .int .i32 ((rd_T23 y282 x30_1).f5), .string (⟨#[]⟩ : ByteArray)]) ?_ 6 _ rfl; (with_reducible repeat (fail)); refine blk_put (cs := #[.int .i64 ((rd_T23 y282 x30_1).f0), .int .i64 ((rd_T23 y282 x30_1).f1), .int .i64 ((rd_T23 y282 x30_1).f2), .int .i64 ((rd_T23 y282 x30_1).f3), .int .i64 ((rd_T23 y282 x30_1).f4), .int .i32 0, .string (⟨#[]⟩ : ByteArray)]) ?_ 5 _ rfl; (with_reducible repeat (fail)); refine blk_put (cs := #[.int .i64 ((rd_T23 y282 x30_1).f0), .int .i64 ((rd_T23 y282 x30_1).f1), .int .i64 ((rd_T23 y282 x30_1).f2), .int .i64 ((rd_T23 y282 x30_1).f3), .int .i64 0, .int .i32 0, .string (⟨#[]⟩ : ByteArray)]) ?_ 4 _ rfl; (with_reducible repeat (fail)); refine blk_put (cs := #[.int .i64 ((rd_T23 y282 x30_1).f0), .int .i64 ((rd_T23 y282 x30_1).f1), .int .i64 ((rd_T23 y282 x30_1).f2), .int .i64 0, .int .i64 0, .int .i32 0, .string (⟨#[]⟩ : ByteArray)]) ?_ 3 _ rfl; (with_reducible repeat (fail)); refine blk_put (cs := #[.int .i64 ((rd_T23 y282 x30_1).f0), .int .i64 ((rd_T23 y282 x30_1).f1), .int .i64 0, .int .i64 0, .int .i64 0, .int .i32 0, .string (⟨#[]⟩ : ByteArray)]) ?_ 2 _ rfl; (with_reducible repeat (fail)); refine blk_put (cs := #[.int .i64 ((rd_T23 y282 x30_1).f0), .int .i64 0, .int .i64 0, .int .i64 0, .int .i64 0, .int .i32 0, .string (⟨#[]⟩ : ByteArray)]) ?_ 1 _ rfl; (with_reducible repeat (fail)); refine blk_put (cs := #[.int .i64 0, .int .i64 0, .int .i64 0, .int .i64 0, .int .i64 0, .int .i32 0, .string (⟨#[]⟩ : ByteArray)]) ?_ 0 _ rfl; (with_reducible repeat (fail)); exact BK291.out) hb); have n1_ := Aside0.mk (below_step (by repeat ((with_reducible first | exact HB.out | refine below_set ?_ GE291.out))) hb); clear BK291; clear HB; have BK291 := n0_; have HB := n1_; clear n0_ n1_; (try clear hb)))
            go_roundg k1
            case measure => have := HK1.out; omega
            case rel => exact ⟨(t294), (wrap64 (x30_1 + 1)), (by rfl), (by rfl), H', ⟨by have := HK1.out; omega⟩, ⟨by repeat ((with_reducible exact HB.out))⟩⟩
           ·replace c21 := Bool.eq_false_iff.mpr c21
            subst c21
            have H1 : (brazierlaw19_CodeBytes.l0 k1 y282 y286 false y282 (y282.length : Int) (wrap64 (x30_1 + 1))) = some r := by rw [if_neg (show ¬ (false = true) by decide)] at H; exact H
            clear H
            have H := H1
            clear H1
            have H' := Aside0.mk H
            clear H
            have p290 : 0 ≤ (x30_1 : Int) := of_decide_eq_true (by (with_reducible assumption))
            have q290 : x30_1 < (y282.length : Int) := of_decide_eq_true (by (with_reducible assumption))
            obtain ⟨ad290, e290, hx290_0, hx290_1, hx290_2, hx290_3, hx290_4, hx290_5, hx290_6⟩ := at_T23 HR285.out x30_1 p290 q290
            cases e290
            replace hx290_0 := (HB.out.cell (World.block_lt_of_cell? w _ hx290_0)).trans hx290_0
            replace hx290_1 := (HB.out.cell (World.block_lt_of_cell? w _ hx290_1)).trans hx290_1
            replace hx290_2 := (HB.out.cell (World.block_lt_of_cell? w _ hx290_2)).trans hx290_2
            replace hx290_3 := (HB.out.cell (World.block_lt_of_cell? w _ hx290_3)).trans hx290_3
            replace hx290_4 := (HB.out.cell (World.block_lt_of_cell? w _ hx290_4)).trans hx290_4
            replace hx290_5 := (HB.out.cell (World.block_lt_of_cell? w _ hx290_5)).trans hx290_5
            replace hx290_6 := (HB.out.cell (World.block_lt_of_cell? w _ hx290_6)).trans hx290_6
            replace p290 := eq_true p290
            replace q290 := eq_true q290
            go_wp2_with (first | ((with_reducible refine gate_dst (N := 7) rfl ?_); (try (refine gate_guard (by rfl) ?_; dsimp only)); refine box_event ?hg (N := 7) ?hd (cs := #[.int .i64 0, .int .i64 0, .int .i64 0, .int .i64 0, .int .i64 0, .int .i32 0, .string (⟨#[]⟩ : ByteArray)]) (t := 23) ?hr ?_; (case hd => rfl); (case hg => rfl); (case hr => (go_simp; done)); intro gb291 hg w25 hbox hb; have n0_ := Aside0.mk (below_step (by repeat ((with_reducible exact HB.out))) hb); have n1_ := Aside0.mk (hbox); have n2_ := Aside0.mk ((by rw [hg]; exact (below_size (by repeat ((with_reducible exact HB.out)))) : w.heap.size ≤ gb291)); have n3_ := Aside0.mk ((by rw [hg]; exact (below_size (by repeat ((with_reducible exact HB.out)))) : w.heap.size ≤ gb291)); clear HB; have HB := n0_; have BK291 := n1_; have GW291 := n2_; have GE291 := n3_; clear n0_ n1_ n2_ n3_; clear hb hbox hg; have hcz26_0 : w25.cell? ⟨gb291, 0, none⟩ = some (.int .i64 0) := (blk_cell BK291.out 0).trans rfl; have hcz26_1 : w25.cell? ⟨gb291, 1, none⟩ = some (.int .i64 0) := (blk_cell BK291.out 1).trans rfl; have hcz26_2 : w25.cell? ⟨gb291, 2, none⟩ = some (.int .i64 0) := (blk_cell BK291.out 2).trans rfl; have hcz26_3 : w25.cell? ⟨gb291, 3, none⟩ = some (.int .i64 0) := (blk_cell BK291.out 3).trans rfl; have hcz26_4 : w25.cell? ⟨gb291, 4, none⟩ = some (.int .i64 0) := (blk_cell BK291.out 4).trans rfl; have hcz26_5 : w25.cell? ⟨gb291, 5, none⟩ = some (.int .i32 0) := (blk_cell BK291.out 5).trans rfl; have hcz26_6 : w25.cell? ⟨gb291, 6, none⟩ = some (.string (⟨#[]⟩ : ByteArray)) := (blk_cell BK291.out 6).trans rfl; have hfz26_0 := blk_frozen BK291.out 0; have hfz26_1 := blk_frozen BK291.out 1; have hfz26_2 := blk_frozen BK291.out 2; have hfz26_3 := blk_frozen BK291.out 3; have hfz26_4 := blk_frozen BK291.out 4; have hfz26_5 := blk_frozen BK291.out 5; have hfz26_6 := blk_frozen BK291.out 6) | ((with_reducible refine gate_callee (f := 9) rfl ?_); refine goesL_ (some 41) rfl rfl Try.func9 (by kernel_rfl) rfl #[.agg #[.int .i64 ((rd_T23 y282 x30_1).f0), .int .i64 ((rd_T23 y282 x30_1).f1), .int .i64 ((rd_T23 y282 x30_1).f2), .int .i64 ((rd_T23 y282 x30_1).f3), .int .i64 ((rd_T23 y282 x30_1).f4), .int .i32 ((rd_T23 y282 x30_1).f5), .string ((rd_T23 y282 x30_1).f6)]] rfl (by (try simp only [List.map_toArray, List.map_cons, List.map_nil]); rfl) ?_; (with_reducible refine (brazierref19_Encode.calls k1 ((rd_T23 y282 x30_1).f0) ((rd_T23 y282 x30_1).f1) ((rd_T23 y282 x30_1).f2) ((rd_T23 y282 x30_1).f3) ((rd_T23 y282 x30_1).f4) ((rd_T23 y282 x30_1).f5) ((rd_T23 y282 x30_1).f6) t293 t294 _ A20.out).mono ?_); rintro e w27 ⟨rfl, hb⟩; refine ⟨_, rfl, ?_⟩; have n0_ := Aside0.mk (blk_below (g := gb291) (o := .cells #[.int .i64 ((rd_T23 y282 x30_1).f0), .int .i64 ((rd_T23 y282 x30_1).f1), .int .i64 ((rd_T23 y282 x30_1).f2), .int .i64 ((rd_T23 y282 x30_1).f3), .int .i64 ((rd_T23 y282 x30_1).f4), .int .i32 ((rd_T23 y282 x30_1).f5), .string ((rd_T23 y282 x30_1).f6)] 23 (0, 0)) (by (with_reducible repeat (fail)); refine blk_put (cs := #[.int .i64 ((rd_T23 y282 x30_1).f0), .int .i64 ((rd_T23 y282 x30_1).f1), .int .i64 ((rd_T23 y282 x30_1).f2), .int .i64 ((rd_T23 y282 x30_1).f3), .int .i64 ((rd_T23 y282 x30_1).f4), .int .i32 ((rd_T23 y282 x30_1).f5), .string (⟨#[]⟩ : ByteArray)]) ?_ 6 _ rfl; (with_reducible repeat (fail)); refine blk_put (cs := #[.int .i64 ((rd_T23 y282 x30_1).f0), .int .i64 ((rd_T23 y282 x30_1).f1), .int .i64 ((rd_T23 y282 x30_1).f2), .int .i64 ((rd_T23 y282 x30_1).f3), .int .i64 ((rd_T23 y282 x30_1).f4), .int .i32 0, .string (⟨#[]⟩ : ByteArray)]) ?_ 5 _ rfl; (with_reducible repeat (fail)); refine blk_put (cs := #[.int .i64 ((rd_T23 y282 x30_1).f0), .int .i64 ((rd_T23 y282 x30_1).f1), .int .i64 ((rd_T23 y282 x30_1).f2), .int .i64 ((rd_T23 y282 x30_1).f3), .int .i64 0, .int .i32 0, .string (⟨#[]⟩ : ByteArray)]) ?_ 4 _ rfl; (with_reducible repeat (fail)); refine blk_put (cs := #[.int .i64 ((rd_T23 y282 x30_1).f0), .int .i64 ((rd_T23 y282 x30_1).f1), .int .i64 ((rd_T23 y282 x30_1).f2), .int .i64 0, .int .i64 0, .int .i32 0, .string (⟨#[]⟩ : ByteArray)]) ?_ 3 _ rfl; (with_reducible repeat (fail)); refine blk_put (cs := #[.int .i64 ((rd_T23 y282 x30_1).f0), .int .i64 ((rd_T23 y282 x30_1).f1), .int .i64 0, .int .i64 0, .int .i64 0, .int .i32 0, .string (⟨#[]⟩ : ByteArray)]) ?_ 2 _ rfl; (with_reducible repeat (fail)); refine blk_put (cs := #[.int .i64 ((rd_T23 y282 x30_1).f0), .int .i64 0, .int .i64 0, .int .i64 0, .int .i64 0, .int .i32 0, .string (⟨#[]⟩ : ByteArray)]) ?_ 1 _ rfl; (with_reducible repeat (fail)); refine blk_put (cs := #[.int .i64 0, .int .i64 0, .int .i64 0, .int .i64 0, .int .i64 0, .int .i32 0, .string (⟨#[]⟩ : ByteArray)]) ?_ 0 _ rfl; (with_reducible repeat (fail)); exact BK291.out) hb); have n1_ := Aside0.mk (below_step (by repeat ((with_reducible first | exact HB.out | refine below_set ?_ GE291.out))) hb); clear BK291; clear HB; have BK291 := n0_; have HB := n1_; clear n0_ n1_; (try clear hb)))
            go_roundg k1
            case measure => have := HK1.out; omega
            case rel => exact ⟨(false), (wrap64 (x30_1 + 1)), (by rfl), (by rfl), H', ⟨by have := HK1.out; omega⟩, ⟨by repeat ((with_reducible exact HB.out))⟩⟩
         ·rw [if_neg c14] at H
          exact absurd H (by simp)
        ·rw [if_neg c13] at H
         exact absurd H (by simp)
       ·rw [if_neg c12] at H
        have c12b0 : decide (x30_1 < (y282.length : Int)) = false := decide_eq_false c12
        clear c12
        replace H := Option.bind_eq_some_iff.mp H
        obtain ⟨⟨t295, t296⟩, A280, H⟩ := H
        replace H : (if (t296 != x5_1) = true then (brazierlaw19_CodeBytes.j1 k1 y282 y286 t295 t296 true) else (if t296 = true then (brazierlaw19_CodeBytes.j1 k1 y282 y286 t295 t296 false) else (brazierlaw19_CodeBytes.j1 k1 y282 y286 t295 t296 ((t295.length : Int) != 0)))) = some r := H
        have A28 := Aside0.mk A280
        clear A280
        have HC29 := Aside0.mk H
        clear H
        go_upto_region 12 with (((with_reducible refine gate_callee (f := 12) rfl ?_); refine goesL_ (some 51) rfl rfl Try.func12 (by kernel_rfl) rfl #[.slice A0 y282.length c0] rfl (by (try simp only [List.map_toArray, List.map_cons, List.map_nil]); rfl) ?_; (with_reducible refine (code_Bytes.calls k1 _ _ y282 t295 t296 _ ?side1 ?side2 A28.out).mono ?_); (case side1 => repeat (exact (Kd.C_below HR285.out HB.out))); (case side2 => exact HC285.out); rintro e w30 ⟨v297, rfl, ho0, hb⟩; refine ⟨_, rfl, ?_⟩; have n0_ := Aside0.mk (Kd.R_lower ho0 (below_size (by repeat ((with_reducible exact HB.out))))); have n1_ := Aside0.mk (below_step (by repeat ((with_reducible exact HB.out))) hb); clear HB; have HO298 := n0_; have HB := n1_; clear n0_ n1_; (try clear hb); (try clear ho0)))
        go_cut [65] (fun v65 wc => ∃ (kq : Nat) (x65_28 : Bool), v65 = .bool x65_28 ∧ Aside0 (brazierlaw19_CodeBytes.j1 kq y282 y286 t295 t296 x65_28 = some r) ∧ Aside0 (kq ≤ k1) ∧ Aside0 (Kd.R (Kd.int .u8) 5 wc w.heap.size (fun _ => True) v297 t295) ∧ Aside0 (Below w.heap.size w wc))
        case first =>
         have H := HC29.out
         clear HC29
         by_cases c31 : (t296 != x5_1) = true
         ·rw [if_pos c31] at H
          have c31b0 : (t296 != x5_1) = true := c31
          (try (have c31b1 : decide (t296 = x5_1) = false := by simpa using c31))
          (try (have c31b2 : (t296 == x5_1) = false := by simpa using c31))
          (try (have c31b3 : ¬ (t296 = x5_1) := by simpa using c31))
          clear c31
          have H' := Aside0.mk H
          clear H
          go_wp2
          go_meet
          case rel => exact ⟨_, (true), (by rfl), H', ⟨by have := HK1.out; omega⟩, ⟨by (with_reducible repeat (fail)); exact HO298.out⟩, ⟨by repeat ((with_reducible exact HB.out))⟩⟩
         ·rw [if_neg c31] at H
          have c31b0 : (t296 != x5_1) = false := by simpa using c31
          (try (have c31b1 : decide (t296 = x5_1) = true := by simpa using c31))
          (try (have c31b2 : (t296 == x5_1) = true := by simpa using c31))
          clear c31
          by_cases c32 : t296 = true
          ·subst c32
           have H1 : (brazierlaw19_CodeBytes.j1 k1 y282 y286 t295 true false) = some r := by rw [if_pos rfl] at H; exact H
           clear H
           have H := H1
           clear H1
           have H' := Aside0.mk H
           clear H
           go_wp2
           go_meet
           case rel => exact ⟨_, (false), (by rfl), H', ⟨by have := HK1.out; omega⟩, ⟨by (with_reducible repeat (fail)); exact HO298.out⟩, ⟨by repeat ((with_reducible exact HB.out))⟩⟩
          ·replace c32 := Bool.eq_false_iff.mpr c32
           subst c32
           have H1 : (brazierlaw19_CodeBytes.j1 k1 y282 y286 t295 false ((t295.length : Int) != 0)) = some r := by rw [if_neg (show ¬ (false = true) by decide)] at H; exact H
           clear H
           have H := H1
           clear H1
           have H' := Aside0.mk H
           clear H
           obtain ⟨Ao33, co33, eo33⟩ := Kd.R_slice HO298.out
           subst eo33
           go_wp2
           go_meet
           case rel => exact ⟨_, (((t295.length : Int) != 0)), (by rfl), H', ⟨by have := HK1.out; omega⟩, ⟨by (with_reducible repeat (fail)); exact HO298.out⟩, ⟨by repeat ((with_reducible exact HB.out))⟩⟩
        case rest =>
         clear HC29 c12b0
         obtain ⟨kq, x65_28, rfl, HA, HJ28, HO_10, HB⟩ := hcut
         cases kq with
         | zero => exact absurd HA.out (by simp [brazierlaw19_CodeBytes.j1])
         | succ kj28 =>
          have H := HA.out
          clear HA
          simp only [brazierlaw19_CodeBytes.j1] at H
          by_cases c34 : x65_28 = true
          ·subst c34
           have H1 : (some false) = some r := by rw [if_pos rfl] at H; exact H
           clear H
           have H := H1
           clear H1
           obtain rfl := Option.some.inj H
           go_wp2
           go_ret
           exact ⟨by rfl, by repeat ((with_reducible exact HB.out))⟩
          ·replace c34 := Bool.eq_false_iff.mpr c34
           subst c34
           have H1 : (if t296 = true then ((some (([] : List Int) : List Int)).bind fun y299 => (if y299.length + t295.length < 140737488355328 then ((some (y299 ++ t295 : List Int)).bind fun y302 => ((some (([0, 0, 0] : List Int) : List Int)).bind fun y305 => (if y302.length + y305.length < 140737488355328 then ((code_Lines.f kj28 (y302 ++ y305)).bind fun bt311 => (if bt311.2 = (wrap64 (4 * (y282.length : Int))) then (if (t295.length : Int) = bt311.2 then ((brazierlaw19_same.f kj28 bt311.1 y282).bind fun t315 => (if t315 = true then (brazierlaw19_CodeBytes.j2 kj28 y286) else (some false))) else (some false)) else (some false))) else (none)))) else (none))) else (brazierlaw19_CodeBytes.j2 kj28 y286)) = some r := by rw [if_neg (show ¬ (false = true) by decide)] at H; exact H
           clear H
           have H := H1
           clear H1
           have HC35 := Aside0.mk H
           clear H
           go_upto_if 66 with (fail)
           go_cut [] (fun wc => ∃ (kq : Nat), Aside0 (brazierlaw19_CodeBytes.j2 kq y286 = some r) ∧ Aside0 (kq ≤ kj28) ∧ Aside0 (Below w.heap.size w wc))
           case first =>
            have H := HC35.out
            clear HC35
            by_cases c36 : t296 = true
            ·subst c36
             have H1 : ((some (([] : List Int) : List Int)).bind fun y299 => (if y299.length + t295.length < 140737488355328 then ((some (y299 ++ t295 : List Int)).bind fun y302 => ((some (([0, 0, 0] : List Int) : List Int)).bind fun y305 => (if y302.length + y305.length < 140737488355328 then ((code_Lines.f kj28 (y302 ++ y305)).bind fun bt311 => (if bt311.2 = (wrap64 (4 * (y282.length : Int))) then (if (t295.length : Int) = bt311.2 then ((brazierlaw19_same.f kj28 bt311.1 y282).bind fun t315 => (if t315 = true then (brazierlaw19_CodeBytes.j2 kj28 y286) else (some false))) else (some false)) else (some false))) else (none)))) else (none))) = some r := by rw [if_pos rfl] at H; exact H
             clear H
             have H := H1
             clear H1
             obtain ⟨y299, hy299⟩ : ∃ y_ : List Int, y_ = (([] : List Int)) := ⟨_, rfl⟩
             replace H : (if y299.length + t295.length < 140737488355328 then ((some (y299 ++ t295 : List Int)).bind fun y302 => ((some (([0, 0, 0] : List Int) : List Int)).bind fun y305 => (if y302.length + y305.length < 140737488355328 then ((code_Lines.f kj28 (y302 ++ y305)).bind fun bt311 => (if bt311.2 = (wrap64 (4 * (y282.length : Int))) then (if (t295.length : Int) = bt311.2 then ((brazierlaw19_same.f kj28 bt311.1 y282).bind fun t315 => (if t315 = true then (brazierlaw19_CodeBytes.j2 kj28 y286) else (some false))) else (some false)) else (some false))) else (none)))) else (none)) = some r := by (have H2_ := (Option.bind_some _ _).symm.trans H; rw [hy299]; with_reducible exact H2_)
             have Ny299 := Aside0.mk hy299
             clear hy299
             by_cases c37 : y299.length + t295.length < 140737488355328
             ·rw [if_pos c37] at H
              have LMc37 := Aside0.mk c37
              clear c37
              obtain ⟨y302, hy302⟩ : ∃ y_ : List Int, y_ = (y299 ++ t295) := ⟨_, rfl⟩
              replace H : ((some (([0, 0, 0] : List Int) : List Int)).bind fun y305 => (if y302.length + y305.length < 140737488355328 then ((code_Lines.f kj28 (y302 ++ y305)).bind fun bt311 => (if bt311.2 = (wrap64 (4 * (y282.length : Int))) then (if (t295.length : Int) = bt311.2 then ((brazierlaw19_same.f kj28 bt311.1 y282).bind fun t315 => (if t315 = true then (brazierlaw19_CodeBytes.j2 kj28 y286) else (some false))) else (some false)) else (some false))) else (none))) = some r := by (have H2_ := (Option.bind_some _ _).symm.trans H; rw [hy302]; with_reducible exact H2_)
              have Ny302 := Aside0.mk hy302
              clear hy302
              obtain ⟨y305, hy305⟩ : ∃ y_ : List Int, y_ = (([0, 0, 0] : List Int)) := ⟨_, rfl⟩
              replace H : (if y302.length + y305.length < 140737488355328 then ((code_Lines.f kj28 (y302 ++ y305)).bind fun bt311 => (if bt311.2 = (wrap64 (4 * (y282.length : Int))) then (if (t295.length : Int) = bt311.2 then ((brazierlaw19_same.f kj28 bt311.1 y282).bind fun t315 => (if t315 = true then (brazierlaw19_CodeBytes.j2 kj28 y286) else (some false))) else (some false)) else (some false))) else (none)) = some r := by (have H2_ := (Option.bind_some _ _).symm.trans H; rw [hy305]; with_reducible exact H2_)
              have Ny305 := Aside0.mk hy305
              clear hy305
              by_cases c38 : y302.length + y305.length < 140737488355328
              ·rw [if_pos c38] at H
               have LMc38 := Aside0.mk c38
               clear c38
               obtain ⟨y308, hy308⟩ : ∃ y_ : List Int, y_ = (y302 ++ y305) := ⟨_, rfl⟩
               replace H : ((code_Lines.f kj28 y308).bind fun bt311 => (if bt311.2 = (wrap64 (4 * (y282.length : Int))) then (if (t295.length : Int) = bt311.2 then ((brazierlaw19_same.f kj28 bt311.1 y282).bind fun t315 => (if t315 = true then (brazierlaw19_CodeBytes.j2 kj28 y286) else (some false))) else (some false)) else (some false))) = some r := by (rw [hy308]; with_reducible exact H)
               have Ny308 := Aside0.mk hy308
               clear hy308
               replace H := Option.bind_eq_some_iff.mp H
               obtain ⟨⟨t311, t312⟩, A390, H⟩ := H
               replace H : (if t312 = (wrap64 (4 * (y282.length : Int))) then (if (t295.length : Int) = t312 then ((brazierlaw19_same.f kj28 t311 y282).bind fun t315 => (if t315 = true then (brazierlaw19_CodeBytes.j2 kj28 y286) else (some false))) else (some false)) else (some false)) = some r := H
               have A39 := Aside0.mk A390
               clear A390
               by_cases c40 : t312 = (wrap64 (4 * (y282.length : Int)))
               ·rw [if_pos c40] at H
                have c40b0 : (t312 == (wrap64 (4 * (y282.length : Int)))) = true := beq_iff_eq.mpr c40
                have c40b1 : (t312 != (wrap64 (4 * (y282.length : Int)))) = false := bne_eq_false_iff_eq.mpr c40
                clear c40
                by_cases c41 : (t295.length : Int) = t312
                ·rw [if_pos c41] at H
                 have c41b0 : ((t295.length : Int) == t312) = true := beq_iff_eq.mpr c41
                 have c41b1 : ((t295.length : Int) != t312) = false := bne_eq_false_iff_eq.mpr c41
                 clear c41
                 replace H := Option.bind_eq_some_iff.mp H
                 obtain ⟨t315, A420, H⟩ := H
                 replace H : (if t315 = true then (brazierlaw19_CodeBytes.j2 kj28 y286) else (some false)) = some r := H
                 have A42 := Aside0.mk A420
                 clear A420
                 by_cases c43 : t315 = true
                 ·subst c43
                  have H1 : (brazierlaw19_CodeBytes.j2 kj28 y286) = some r := by rw [if_pos rfl] at H; exact H
                  clear H
                  have H := H1
                  clear H1
                  have H' := Aside0.mk H
                  clear H
                  go_wp2_with (first | ((with_reducible refine gate_dst (N := 68) rfl ?_); (try (refine gate_guard (by rfl) ?_; dsimp only)); refine Kd.R_lit (Kd.int .u8) _ 5 ?hg (N := 68) ?hd (xs := ([] : List Int)) (inner := []) (ok := fun _ => True) (okp := fun _ => True) ?hr ?hp (fun _ hk => hk) trivial (Below.refl _ _) (Nat.le_refl _) (by simp) ?_; (case hd => rfl); (case hg => rfl); (case hr => (go_simp; done)); (case hp => exact (Reps.none _ _)); intro v300 w44 ho45 hb hg_ hnew_; clear hg_ hnew_; (rw [← Ny299.out] at ho45); have n0_ := Aside0.mk (Kd.R_elder' (by (with_reducible repeat (fail)); exact HO_10.out) (Kd.R_base ho45) hb); have n1_ := Aside0.mk (Kd.R_lower (Kd.R_new' ho45 (Kd.R_lt (by (with_reducible repeat (fail)); exact HO_10.out))) (below_size (by repeat ((with_reducible exact HB.out))))); have n2_ := Aside0.mk (below_step (by repeat ((with_reducible exact HB.out))) hb); clear HO_10; clear HB; have HO_10 := n0_; have HO301 := n1_; have HB := n2_; clear n0_ n1_ n2_; clear hb ho45; obtain ⟨Ao47, co47, eo47⟩ := Kd.R_slice HO_10.out; subst eo47) | ((with_reducible refine gate_builtin (b := .append) (xs := #[.tmp 68, .tmp 69]) rfl ?_); (try (refine gate_guard (by rfl) ?_; dsimp only)); at_builtin; refine Kd.R_append_rows (Kd.int .u8) (w0 := w) w.heap.size rfl (.tmp 68) (.tmp 69) 34 5 (.int .u8 0) 1 rfl Try.underlying34 info5 rfl (by decide) (by omega) v300 y299 t295 _ _ _ (fun k_ => some k_ ≠ (.slice Ao47 t295.length co47 : Value).ownBlock) (fun _ => False) rfl rfl ?aO ?aR (fun _ _ h => h) (fun _ h => h.elim) ?aF ?aB ?aS ?aL ?_; (case aR => repeat (exact (Kd.R_reads' HO_10.out).2.2)); (case aB => exact (by repeat ((with_reducible exact HB.out)))); (case aF => exact (fun k_ hk => Kd.fresh' (Kd.R_lt (by (with_reducible repeat (fail)); exact HO_10.out)) k_ hk)); (case aO => exact (by (with_reducible repeat (fail)); exact Kd.R_mono HO301.out (fun _ hk => hk.2))); (case aS => exact (below_size (by repeat ((with_reducible exact HB.out))))); (case aL => have := LMc37.out; omega); intro v303 w46 ho hb hg hat; rw [← Ny302.out] at ho; have n0_ := Aside0.mk (Kd.R_after (ok := (fun _ => True)) (by (with_reducible repeat (fail)); exact HO_10.out) hg hat); have n1_ := Aside0.mk (hb); have n2_ := Aside0.mk (ho); clear HO_10; clear HB; clear HO301; have HO_10 := n0_; have HB := n1_; have HO304 := n2_; clear n0_ n1_ n2_; clear ho hb hg hat) | ((with_reducible refine gate_dst (N := 71) rfl ?_); (try (refine gate_guard (by rfl) ?_; dsimp only)); refine Kd.R_lit (Kd.int .u8) _ 5 ?hg (N := 71) ?hd (xs := ([0, 0, 0] : List Int)) (inner := [.int .u8 0, .int .u8 0, .int .u8 0]) (ok := fun _ => True) (okp := fun _ => True) ?hr ?hp (fun _ hk => hk) trivial (Below.refl _ _) (Nat.le_refl _) (by simp) ?_; (case hd => rfl); (case hg => rfl); (case hr => (go_simp; done)); (case hp => exact (Reps.one (show Kd.M (Kd.int .u8) _ _ _ 0 [.int .u8 0] from rfl) (Reps.one (show Kd.M (Kd.int .u8) _ _ _ 0 [.int .u8 0] from rfl) (Reps.one (show Kd.M (Kd.int .u8) _ _ _ 0 [.int .u8 0] from rfl) (Reps.none _ _))))); intro v306 w48 ho49 hb hg_ hnew_; clear hg_ hnew_; (rw [← Ny305.out] at ho49); have n0_ := Aside0.mk (Kd.R_elder' (by (with_reducible repeat (fail)); exact HO_10.out) (Kd.R_base ho49) hb); have n1_ := Aside0.mk (Kd.R_elder' (by (with_reducible repeat (fail)); exact HO304.out) (Kd.R_base ho49) hb); have n2_ := Aside0.mk (Kd.R_lower (Kd.R_new' (Kd.R_new' ho49 (Kd.R_lt (by (with_reducible repeat (fail)); exact HO_10.out))) (Kd.R_lt (by (with_reducible repeat (fail)); exact HO304.out))) (below_size (by repeat ((with_reducible exact HB.out))))); have n3_ := Aside0.mk (below_step (by repeat ((with_reducible exact HB.out))) hb); clear HO_10; clear HO304; clear HB; have HO_10 := n0_; have HO304 := n1_; have HO307 := n2_; have HB := n3_; clear n0_ n1_ n2_ n3_; clear hb ho49; obtain ⟨Ao51, co51, eo51⟩ := Kd.R_slice HO307.out; subst eo51) | ((with_reducible refine gate_builtin (b := .append) (xs := #[.tmp 70, .tmp 71]) rfl ?_); (try (refine gate_guard (by rfl) ?_; dsimp only)); at_builtin; refine Kd.R_append_rows (Kd.int .u8) (w0 := w) w.heap.size rfl (.tmp 70) (.tmp 71) 34 5 (.int .u8 0) 1 rfl Try.underlying34 info5 rfl (by decide) (by omega) v303 y302 y305 _ _ _ (fun k_ => some k_ ≠ (.slice Ao47 t295.length co47 : Value).ownBlock ∧ some k_ ≠ (.slice Ao51 y305.length co51 : Value).ownBlock) (fun _ => False) rfl rfl ?aO ?aR (fun _ _ h => h) (fun _ h => h.elim) ?aF ?aB ?aS ?aL ?_; (case aR => repeat (exact (Kd.R_reads' HO307.out).2.2)); (case aB => exact (by repeat ((with_reducible exact HB.out)))); (case aF => exact (fun k_ hk => ⟨Kd.fresh' (Kd.R_lt (by (with_reducible repeat (fail)); exact HO_10.out)) k_ hk, Kd.fresh' (Kd.R_lt (by (with_reducible repeat (fail)); exact HO307.out)) k_ hk⟩)); (case aO => exact (by (with_reducible repeat (fail)); exact HO304.out)); (case aS => exact (below_size (by repeat ((with_reducible exact HB.out))))); (case aL => have := LMc38.out; omega); intro v309 w50 ho hb hg hat; rw [← Ny308.out] at ho; have n0_ := Aside0.mk (Kd.R_after (ok := (fun k_ => some k_ ≠ (.slice Ao51 y305.length co51 : Value).ownBlock)) (by (with_reducible repeat (fail)); exact Kd.R_mono HO_10.out (fun _ hk => ⟨hk.2, hk.1.2⟩)) hg hat); have n1_ := Aside0.mk (Kd.R_after (ok := (fun k_ => some k_ ≠ (.slice Ao47 t295.length co47 : Value).ownBlock)) (by (with_reducible repeat (fail)); exact Kd.R_mono HO307.out (fun _ hk => ⟨hk.1.2, hk.2⟩)) hg hat); have n2_ := Aside0.mk (hb); have n3_ := Aside0.mk (ho); clear HO_10; clear HO307; clear HB; clear HO304; have HO_10 := n0_; have HO307 := n1_; have HB := n2_; have HO310 := n3_; clear n0_ n1_ n2_ n3_; clear ho hb hg hat; obtain ⟨Ao52, co52, eo52⟩ := Kd.R_slice HO310.out; subst eo52) | ((with_reducible refine gate_callee (f := 13) rfl ?_); refine goesL_ (some 73) rfl rfl Try.func13 (by kernel_rfl) rfl #[.slice Ao52 y308.length co52] rfl (by (try simp only [List.map_toArray, List.map_cons, List.map_nil]); rfl) ?_; (with_reducible refine (code_Lines.calls kj28 _ _ y308 t311 t312 _ ?side1 ?side2 A39.out).mono ?_); (case side1 => repeat (exact (Kd.R_reads' HO310.out).2.2)); (case side2 => exact (Kd.R_reads' HO310.out).2.1); rintro e w53 ⟨v313, rfl, ho0, hb⟩; refine ⟨_, rfl, ?_⟩; have n0_ := Aside0.mk (Kd.R_below (by (with_reducible repeat (fail)); exact HO_10.out) hb); have n1_ := Aside0.mk (Kd.R_below (by (with_reducible repeat (fail)); exact HO307.out) hb); have n2_ := Aside0.mk (Kd.R_below (by (with_reducible repeat (fail)); exact HO310.out) hb); have n3_ := Aside0.mk (Kd.R_lower ho0 (below_size (by repeat ((with_reducible exact HB.out))))); have n4_ := Aside0.mk (below_step (by repeat ((with_reducible exact HB.out))) hb); clear HO_10; clear HO307; clear HO310; clear HB; have HO_10 := n0_; have HO307 := n1_; have HO310 := n2_; have HO314 := n3_; have HB := n4_; clear n0_ n1_ n2_ n3_ n4_; (try clear hb); (try clear ho0); obtain ⟨Ao54, co54, eo54⟩ := Kd.R_slice HO314.out; subst eo54) | (go_at_call 14; (with_reducible refine (brazierlaw19_same.calls kj28 _ _ t311 _ _ y282 true _ ?side1 ?side2 ?side3 ?side4 A42.out).mono ?_); (case side1 => repeat (exact (Kd.R_reads' HO314.out).2.2)); (case side2 => exact (Kd.R_reads' HO314.out).2.1); (case side3 => repeat (exact (Kd.C_below HR285.out HB.out))); (case side4 => exact HC285.out); rintro e w' ⟨rfl, ⟨nd, rfl⟩⟩))
                  go_meet
                  case rel => exact ⟨_, H', ⟨by have := HK1.out; have := HJ28.out; omega⟩, ⟨by repeat ((with_reducible first | exact HB.out | apply pw_below_drewN))⟩⟩
                 ·replace c43 := Bool.eq_false_iff.mpr c43
                  subst c43
                  have H1 : (some false) = some r := by rw [if_neg (show ¬ (false = true) by decide)] at H; exact H
                  clear H
                  have H := H1
                  clear H1
                  obtain rfl := Option.some.inj H
                  go_wp2_with (first | ((with_reducible refine gate_dst (N := 68) rfl ?_); (try (refine gate_guard (by rfl) ?_; dsimp only)); refine Kd.R_lit (Kd.int .u8) _ 5 ?hg (N := 68) ?hd (xs := ([] : List Int)) (inner := []) (ok := fun _ => True) (okp := fun _ => True) ?hr ?hp (fun _ hk => hk) trivial (Below.refl _ _) (Nat.le_refl _) (by simp) ?_; (case hd => rfl); (case hg => rfl); (case hr => (go_simp; done)); (case hp => exact (Reps.none _ _)); intro v300 w55 ho56 hb hg_ hnew_; clear hg_ hnew_; (rw [← Ny299.out] at ho56); have n0_ := Aside0.mk (Kd.R_elder' (by (with_reducible repeat (fail)); exact HO_10.out) (Kd.R_base ho56) hb); have n1_ := Aside0.mk (Kd.R_lower (Kd.R_new' ho56 (Kd.R_lt (by (with_reducible repeat (fail)); exact HO_10.out))) (below_size (by repeat ((with_reducible exact HB.out))))); have n2_ := Aside0.mk (below_step (by repeat ((with_reducible exact HB.out))) hb); clear HO_10; clear HB; have HO_10 := n0_; have HO301 := n1_; have HB := n2_; clear n0_ n1_ n2_; clear hb ho56; obtain ⟨Ao58, co58, eo58⟩ := Kd.R_slice HO_10.out; subst eo58) | ((with_reducible refine gate_builtin (b := .append) (xs := #[.tmp 68, .tmp 69]) rfl ?_); (try (refine gate_guard (by rfl) ?_; dsimp only)); at_builtin; refine Kd.R_append_rows (Kd.int .u8) (w0 := w) w.heap.size rfl (.tmp 68) (.tmp 69) 34 5 (.int .u8 0) 1 rfl Try.underlying34 info5 rfl (by decide) (by omega) v300 y299 t295 _ _ _ (fun k_ => some k_ ≠ (.slice Ao58 t295.length co58 : Value).ownBlock) (fun _ => False) rfl rfl ?aO ?aR (fun _ _ h => h) (fun _ h => h.elim) ?aF ?aB ?aS ?aL ?_; (case aR => repeat (exact (Kd.R_reads' HO_10.out).2.2)); (case aB => exact (by repeat ((with_reducible exact HB.out)))); (case aF => exact (fun k_ hk => Kd.fresh' (Kd.R_lt (by (with_reducible repeat (fail)); exact HO_10.out)) k_ hk)); (case aO => exact (by (with_reducible repeat (fail)); exact Kd.R_mono HO301.out (fun _ hk => hk.2))); (case aS => exact (below_size (by repeat ((with_reducible exact HB.out))))); (case aL => have := LMc37.out; omega); intro v303 w57 ho hb hg hat; rw [← Ny302.out] at ho; have n0_ := Aside0.mk (Kd.R_after (ok := (fun _ => True)) (by (with_reducible repeat (fail)); exact HO_10.out) hg hat); have n1_ := Aside0.mk (hb); have n2_ := Aside0.mk (ho); clear HO_10; clear HB; clear HO301; have HO_10 := n0_; have HB := n1_; have HO304 := n2_; clear n0_ n1_ n2_; clear ho hb hg hat) | ((with_reducible refine gate_dst (N := 71) rfl ?_); (try (refine gate_guard (by rfl) ?_; dsimp only)); refine Kd.R_lit (Kd.int .u8) _ 5 ?hg (N := 71) ?hd (xs := ([0, 0, 0] : List Int)) (inner := [.int .u8 0, .int .u8 0, .int .u8 0]) (ok := fun _ => True) (okp := fun _ => True) ?hr ?hp (fun _ hk => hk) trivial (Below.refl _ _) (Nat.le_refl _) (by simp) ?_; (case hd => rfl); (case hg => rfl); (case hr => (go_simp; done)); (case hp => exact (Reps.one (show Kd.M (Kd.int .u8) _ _ _ 0 [.int .u8 0] from rfl) (Reps.one (show Kd.M (Kd.int .u8) _ _ _ 0 [.int .u8 0] from rfl) (Reps.one (show Kd.M (Kd.int .u8) _ _ _ 0 [.int .u8 0] from rfl) (Reps.none _ _))))); intro v306 w59 ho60 hb hg_ hnew_; clear hg_ hnew_; (rw [← Ny305.out] at ho60); have n0_ := Aside0.mk (Kd.R_elder' (by (with_reducible repeat (fail)); exact HO_10.out) (Kd.R_base ho60) hb); have n1_ := Aside0.mk (Kd.R_elder' (by (with_reducible repeat (fail)); exact HO304.out) (Kd.R_base ho60) hb); have n2_ := Aside0.mk (Kd.R_lower (Kd.R_new' (Kd.R_new' ho60 (Kd.R_lt (by (with_reducible repeat (fail)); exact HO_10.out))) (Kd.R_lt (by (with_reducible repeat (fail)); exact HO304.out))) (below_size (by repeat ((with_reducible exact HB.out))))); have n3_ := Aside0.mk (below_step (by repeat ((with_reducible exact HB.out))) hb); clear HO_10; clear HO304; clear HB; have HO_10 := n0_; have HO304 := n1_; have HO307 := n2_; have HB := n3_; clear n0_ n1_ n2_ n3_; clear hb ho60; obtain ⟨Ao62, co62, eo62⟩ := Kd.R_slice HO307.out; subst eo62) | ((with_reducible refine gate_builtin (b := .append) (xs := #[.tmp 70, .tmp 71]) rfl ?_); (try (refine gate_guard (by rfl) ?_; dsimp only)); at_builtin; refine Kd.R_append_rows (Kd.int .u8) (w0 := w) w.heap.size rfl (.tmp 70) (.tmp 71) 34 5 (.int .u8 0) 1 rfl Try.underlying34 info5 rfl (by decide) (by omega) v303 y302 y305 _ _ _ (fun k_ => some k_ ≠ (.slice Ao58 t295.length co58 : Value).ownBlock ∧ some k_ ≠ (.slice Ao62 y305.length co62 : Value).ownBlock) (fun _ => False) rfl rfl ?aO ?aR (fun _ _ h => h) (fun _ h => h.elim) ?aF ?aB ?aS ?aL ?_; (case aR => repeat (exact (Kd.R_reads' HO307.out).2.2)); (case aB => exact (by repeat ((with_reducible exact HB.out)))); (case aF => exact (fun k_ hk => ⟨Kd.fresh' (Kd.R_lt (by (with_reducible repeat (fail)); exact HO_10.out)) k_ hk, Kd.fresh' (Kd.R_lt (by (with_reducible repeat (fail)); exact HO307.out)) k_ hk⟩)); (case aO => exact (by (with_reducible repeat (fail)); exact HO304.out)); (case aS => exact (below_size (by repeat ((with_reducible exact HB.out))))); (case aL => have := LMc38.out; omega); intro v309 w61 ho hb hg hat; rw [← Ny308.out] at ho; have n0_ := Aside0.mk (Kd.R_after (ok := (fun k_ => some k_ ≠ (.slice Ao62 y305.length co62 : Value).ownBlock)) (by (with_reducible repeat (fail)); exact Kd.R_mono HO_10.out (fun _ hk => ⟨hk.2, hk.1.2⟩)) hg hat); have n1_ := Aside0.mk (Kd.R_after (ok := (fun k_ => some k_ ≠ (.slice Ao58 t295.length co58 : Value).ownBlock)) (by (with_reducible repeat (fail)); exact Kd.R_mono HO307.out (fun _ hk => ⟨hk.1.2, hk.2⟩)) hg hat); have n2_ := Aside0.mk (hb); have n3_ := Aside0.mk (ho); clear HO_10; clear HO307; clear HB; clear HO304; have HO_10 := n0_; have HO307 := n1_; have HB := n2_; have HO310 := n3_; clear n0_ n1_ n2_ n3_; clear ho hb hg hat; obtain ⟨Ao63, co63, eo63⟩ := Kd.R_slice HO310.out; subst eo63) | ((with_reducible refine gate_callee (f := 13) rfl ?_); refine goesL_ (some 73) rfl rfl Try.func13 (by kernel_rfl) rfl #[.slice Ao63 y308.length co63] rfl (by (try simp only [List.map_toArray, List.map_cons, List.map_nil]); rfl) ?_; (with_reducible refine (code_Lines.calls kj28 _ _ y308 t311 t312 _ ?side1 ?side2 A39.out).mono ?_); (case side1 => repeat (exact (Kd.R_reads' HO310.out).2.2)); (case side2 => exact (Kd.R_reads' HO310.out).2.1); rintro e w64 ⟨v313, rfl, ho0, hb⟩; refine ⟨_, rfl, ?_⟩; have n0_ := Aside0.mk (Kd.R_below (by (with_reducible repeat (fail)); exact HO_10.out) hb); have n1_ := Aside0.mk (Kd.R_below (by (with_reducible repeat (fail)); exact HO307.out) hb); have n2_ := Aside0.mk (Kd.R_below (by (with_reducible repeat (fail)); exact HO310.out) hb); have n3_ := Aside0.mk (Kd.R_lower ho0 (below_size (by repeat ((with_reducible exact HB.out))))); have n4_ := Aside0.mk (below_step (by repeat ((with_reducible exact HB.out))) hb); clear HO_10; clear HO307; clear HO310; clear HB; have HO_10 := n0_; have HO307 := n1_; have HO310 := n2_; have HO314 := n3_; have HB := n4_; clear n0_ n1_ n2_ n3_ n4_; (try clear hb); (try clear ho0); obtain ⟨Ao65, co65, eo65⟩ := Kd.R_slice HO314.out; subst eo65) | (go_at_call 14; (with_reducible refine (brazierlaw19_same.calls kj28 _ _ t311 _ _ y282 false _ ?side1 ?side2 ?side3 ?side4 A42.out).mono ?_); (case side1 => repeat (exact (Kd.R_reads' HO314.out).2.2)); (case side2 => exact (Kd.R_reads' HO314.out).2.1); (case side3 => repeat (exact (Kd.C_below HR285.out HB.out))); (case side4 => exact HC285.out); rintro e w' ⟨rfl, ⟨nd, rfl⟩⟩))
                  go_ret
                  exact ⟨by rfl, by repeat ((with_reducible first | exact HB.out | apply pw_below_drewN))⟩
                ·rw [if_neg c41] at H
                 have c41b0 : ((t295.length : Int) == t312) = false := beq_eq_false_iff_ne.mpr c41
                 have c41b1 : ((t295.length : Int) != t312) = true := bne_iff_ne.mpr c41
                 obtain rfl := Option.some.inj H
                 go_wp2_with (first | ((with_reducible refine gate_dst (N := 68) rfl ?_); (try (refine gate_guard (by rfl) ?_; dsimp only)); refine Kd.R_lit (Kd.int .u8) _ 5 ?hg (N := 68) ?hd (xs := ([] : List Int)) (inner := []) (ok := fun _ => True) (okp := fun _ => True) ?hr ?hp (fun _ hk => hk) trivial (Below.refl _ _) (Nat.le_refl _) (by simp) ?_; (case hd => rfl); (case hg => rfl); (case hr => (go_simp; done)); (case hp => exact (Reps.none _ _)); intro v300 w66 ho67 hb hg_ hnew_; clear hg_ hnew_; (rw [← Ny299.out] at ho67); have n0_ := Aside0.mk (Kd.R_elder' (by (with_reducible repeat (fail)); exact HO_10.out) (Kd.R_base ho67) hb); have n1_ := Aside0.mk (Kd.R_lower (Kd.R_new' ho67 (Kd.R_lt (by (with_reducible repeat (fail)); exact HO_10.out))) (below_size (by repeat ((with_reducible exact HB.out))))); have n2_ := Aside0.mk (below_step (by repeat ((with_reducible exact HB.out))) hb); clear HO_10; clear HB; have HO_10 := n0_; have HO301 := n1_; have HB := n2_; clear n0_ n1_ n2_; clear hb ho67; obtain ⟨Ao69, co69, eo69⟩ := Kd.R_slice HO_10.out; subst eo69) | ((with_reducible refine gate_builtin (b := .append) (xs := #[.tmp 68, .tmp 69]) rfl ?_); (try (refine gate_guard (by rfl) ?_; dsimp only)); at_builtin; refine Kd.R_append_rows (Kd.int .u8) (w0 := w) w.heap.size rfl (.tmp 68) (.tmp 69) 34 5 (.int .u8 0) 1 rfl Try.underlying34 info5 rfl (by decide) (by omega) v300 y299 t295 _ _ _ (fun k_ => some k_ ≠ (.slice Ao69 t295.length co69 : Value).ownBlock) (fun _ => False) rfl rfl ?aO ?aR (fun _ _ h => h) (fun _ h => h.elim) ?aF ?aB ?aS ?aL ?_; (case aR => repeat (exact (Kd.R_reads' HO_10.out).2.2)); (case aB => exact (by repeat ((with_reducible exact HB.out)))); (case aF => exact (fun k_ hk => Kd.fresh' (Kd.R_lt (by (with_reducible repeat (fail)); exact HO_10.out)) k_ hk)); (case aO => exact (by (with_reducible repeat (fail)); exact Kd.R_mono HO301.out (fun _ hk => hk.2))); (case aS => exact (below_size (by repeat ((with_reducible exact HB.out))))); (case aL => have := LMc37.out; omega); intro v303 w68 ho hb hg hat; rw [← Ny302.out] at ho; have n0_ := Aside0.mk (Kd.R_after (ok := (fun _ => True)) (by (with_reducible repeat (fail)); exact HO_10.out) hg hat); have n1_ := Aside0.mk (hb); have n2_ := Aside0.mk (ho); clear HO_10; clear HB; clear HO301; have HO_10 := n0_; have HB := n1_; have HO304 := n2_; clear n0_ n1_ n2_; clear ho hb hg hat) | ((with_reducible refine gate_dst (N := 71) rfl ?_); (try (refine gate_guard (by rfl) ?_; dsimp only)); refine Kd.R_lit (Kd.int .u8) _ 5 ?hg (N := 71) ?hd (xs := ([0, 0, 0] : List Int)) (inner := [.int .u8 0, .int .u8 0, .int .u8 0]) (ok := fun _ => True) (okp := fun _ => True) ?hr ?hp (fun _ hk => hk) trivial (Below.refl _ _) (Nat.le_refl _) (by simp) ?_; (case hd => rfl); (case hg => rfl); (case hr => (go_simp; done)); (case hp => exact (Reps.one (show Kd.M (Kd.int .u8) _ _ _ 0 [.int .u8 0] from rfl) (Reps.one (show Kd.M (Kd.int .u8) _ _ _ 0 [.int .u8 0] from rfl) (Reps.one (show Kd.M (Kd.int .u8) _ _ _ 0 [.int .u8 0] from rfl) (Reps.none _ _))))); intro v306 w70 ho71 hb hg_ hnew_; clear hg_ hnew_; (rw [← Ny305.out] at ho71); have n0_ := Aside0.mk (Kd.R_elder' (by (with_reducible repeat (fail)); exact HO_10.out) (Kd.R_base ho71) hb); have n1_ := Aside0.mk (Kd.R_elder' (by (with_reducible repeat (fail)); exact HO304.out) (Kd.R_base ho71) hb); have n2_ := Aside0.mk (Kd.R_lower (Kd.R_new' (Kd.R_new' ho71 (Kd.R_lt (by (with_reducible repeat (fail)); exact HO_10.out))) (Kd.R_lt (by (with_reducible repeat (fail)); exact HO304.out))) (below_size (by repeat ((with_reducible exact HB.out))))); have n3_ := Aside0.mk (below_step (by repeat ((with_reducible exact HB.out))) hb); clear HO_10; clear HO304; clear HB; have HO_10 := n0_; have HO304 := n1_; have HO307 := n2_; have HB := n3_; clear n0_ n1_ n2_ n3_; clear hb ho71; obtain ⟨Ao73, co73, eo73⟩ := Kd.R_slice HO307.out; subst eo73) | ((with_reducible refine gate_builtin (b := .append) (xs := #[.tmp 70, .tmp 71]) rfl ?_); (try (refine gate_guard (by rfl) ?_; dsimp only)); at_builtin; refine Kd.R_append_rows (Kd.int .u8) (w0 := w) w.heap.size rfl (.tmp 70) (.tmp 71) 34 5 (.int .u8 0) 1 rfl Try.underlying34 info5 rfl (by decide) (by omega) v303 y302 y305 _ _ _ (fun k_ => some k_ ≠ (.slice Ao69 t295.length co69 : Value).ownBlock ∧ some k_ ≠ (.slice Ao73 y305.length co73 : Value).ownBlock) (fun _ => False) rfl rfl ?aO ?aR (fun _ _ h => h) (fun _ h => h.elim) ?aF ?aB ?aS ?aL ?_; (case aR => repeat (exact (Kd.R_reads' HO307.out).2.2)); (case aB => exact (by repeat ((with_reducible exact HB.out)))); (case aF => exact (fun k_ hk => ⟨Kd.fresh' (Kd.R_lt (by (with_reducible repeat (fail)); exact HO_10.out)) k_ hk, Kd.fresh' (Kd.R_lt (by (with_reducible repeat (fail)); exact HO307.out)) k_ hk⟩)); (case aO => exact (by (with_reducible repeat (fail)); exact HO304.out)); (case aS => exact (below_size (by repeat ((with_reducible exact HB.out))))); (case aL => have := LMc38.out; omega); intro v309 w72 ho hb hg hat; rw [← Ny308.out] at ho; have n0_ := Aside0.mk (Kd.R_after (ok := (fun k_ => some k_ ≠ (.slice Ao73 y305.length co73 : Value).ownBlock)) (by (with_reducible repeat (fail)); exact Kd.R_mono HO_10.out (fun _ hk => ⟨hk.2, hk.1.2⟩)) hg hat); have n1_ := Aside0.mk (Kd.R_after (ok := (fun k_ => some k_ ≠ (.slice Ao69 t295.length co69 : Value).ownBlock)) (by (with_reducible repeat (fail)); exact Kd.R_mono HO307.out (fun _ hk => ⟨hk.1.2, hk.2⟩)) hg hat); have n2_ := Aside0.mk (hb); have n3_ := Aside0.mk (ho); clear HO_10; clear HO307; clear HB; clear HO304; have HO_10 := n0_; have HO307 := n1_; have HB := n2_; have HO310 := n3_; clear n0_ n1_ n2_ n3_; clear ho hb hg hat; obtain ⟨Ao74, co74, eo74⟩ := Kd.R_slice HO310.out; subst eo74) | ((with_reducible refine gate_callee (f := 13) rfl ?_); refine goesL_ (some 73) rfl rfl Try.func13 (by kernel_rfl) rfl #[.slice Ao74 y308.length co74] rfl (by (try simp only [List.map_toArray, List.map_cons, List.map_nil]); rfl) ?_; (with_reducible refine (code_Lines.calls kj28 _ _ y308 t311 t312 _ ?side1 ?side2 A39.out).mono ?_); (case side1 => repeat (exact (Kd.R_reads' HO310.out).2.2)); (case side2 => exact (Kd.R_reads' HO310.out).2.1); rintro e w75 ⟨v313, rfl, ho0, hb⟩; refine ⟨_, rfl, ?_⟩; have n0_ := Aside0.mk (Kd.R_below (by (with_reducible repeat (fail)); exact HO_10.out) hb); have n1_ := Aside0.mk (Kd.R_below (by (with_reducible repeat (fail)); exact HO307.out) hb); have n2_ := Aside0.mk (Kd.R_below (by (with_reducible repeat (fail)); exact HO310.out) hb); have n3_ := Aside0.mk (Kd.R_lower ho0 (below_size (by repeat ((with_reducible exact HB.out))))); have n4_ := Aside0.mk (below_step (by repeat ((with_reducible exact HB.out))) hb); clear HO_10; clear HO307; clear HO310; clear HB; have HO_10 := n0_; have HO307 := n1_; have HO310 := n2_; have HO314 := n3_; have HB := n4_; clear n0_ n1_ n2_ n3_ n4_; (try clear hb); (try clear ho0)))
                 go_ret
                 exact ⟨by rfl, by repeat ((with_reducible exact HB.out))⟩
               ·rw [if_neg c40] at H
                have c40b0 : (t312 == (wrap64 (4 * (y282.length : Int)))) = false := beq_eq_false_iff_ne.mpr c40
                have c40b1 : (t312 != (wrap64 (4 * (y282.length : Int)))) = true := bne_iff_ne.mpr c40
                obtain rfl := Option.some.inj H
                go_wp2_with (first | ((with_reducible refine gate_dst (N := 68) rfl ?_); (try (refine gate_guard (by rfl) ?_; dsimp only)); refine Kd.R_lit (Kd.int .u8) _ 5 ?hg (N := 68) ?hd (xs := ([] : List Int)) (inner := []) (ok := fun _ => True) (okp := fun _ => True) ?hr ?hp (fun _ hk => hk) trivial (Below.refl _ _) (Nat.le_refl _) (by simp) ?_; (case hd => rfl); (case hg => rfl); (case hr => (go_simp; done)); (case hp => exact (Reps.none _ _)); intro v300 w76 ho77 hb hg_ hnew_; clear hg_ hnew_; (rw [← Ny299.out] at ho77); have n0_ := Aside0.mk (Kd.R_elder' (by (with_reducible repeat (fail)); exact HO_10.out) (Kd.R_base ho77) hb); have n1_ := Aside0.mk (Kd.R_lower (Kd.R_new' ho77 (Kd.R_lt (by (with_reducible repeat (fail)); exact HO_10.out))) (below_size (by repeat ((with_reducible exact HB.out))))); have n2_ := Aside0.mk (below_step (by repeat ((with_reducible exact HB.out))) hb); clear HO_10; clear HB; have HO_10 := n0_; have HO301 := n1_; have HB := n2_; clear n0_ n1_ n2_; clear hb ho77; obtain ⟨Ao79, co79, eo79⟩ := Kd.R_slice HO_10.out; subst eo79) | ((with_reducible refine gate_builtin (b := .append) (xs := #[.tmp 68, .tmp 69]) rfl ?_); (try (refine gate_guard (by rfl) ?_; dsimp only)); at_builtin; refine Kd.R_append_rows (Kd.int .u8) (w0 := w) w.heap.size rfl (.tmp 68) (.tmp 69) 34 5 (.int .u8 0) 1 rfl Try.underlying34 info5 rfl (by decide) (by omega) v300 y299 t295 _ _ _ (fun k_ => some k_ ≠ (.slice Ao79 t295.length co79 : Value).ownBlock) (fun _ => False) rfl rfl ?aO ?aR (fun _ _ h => h) (fun _ h => h.elim) ?aF ?aB ?aS ?aL ?_; (case aR => repeat (exact (Kd.R_reads' HO_10.out).2.2)); (case aB => exact (by repeat ((with_reducible exact HB.out)))); (case aF => exact (fun k_ hk => Kd.fresh' (Kd.R_lt (by (with_reducible repeat (fail)); exact HO_10.out)) k_ hk)); (case aO => exact (by (with_reducible repeat (fail)); exact Kd.R_mono HO301.out (fun _ hk => hk.2))); (case aS => exact (below_size (by repeat ((with_reducible exact HB.out))))); (case aL => have := LMc37.out; omega); intro v303 w78 ho hb hg hat; rw [← Ny302.out] at ho; have n0_ := Aside0.mk (Kd.R_after (ok := (fun _ => True)) (by (with_reducible repeat (fail)); exact HO_10.out) hg hat); have n1_ := Aside0.mk (hb); have n2_ := Aside0.mk (ho); clear HO_10; clear HB; clear HO301; have HO_10 := n0_; have HB := n1_; have HO304 := n2_; clear n0_ n1_ n2_; clear ho hb hg hat) | ((with_reducible refine gate_dst (N := 71) rfl ?_); (try (refine gate_guard (by rfl) ?_; dsimp only)); refine Kd.R_lit (Kd.int .u8) _ 5 ?hg (N := 71) ?hd (xs := ([0, 0, 0] : List Int)) (inner := [.int .u8 0, .int .u8 0, .int .u8 0]) (ok := fun _ => True) (okp := fun _ => True) ?hr ?hp (fun _ hk => hk) trivial (Below.refl _ _) (Nat.le_refl _) (by simp) ?_; (case hd => rfl); (case hg => rfl); (case hr => (go_simp; done)); (case hp => exact (Reps.one (show Kd.M (Kd.int .u8) _ _ _ 0 [.int .u8 0] from rfl) (Reps.one (show Kd.M (Kd.int .u8) _ _ _ 0 [.int .u8 0] from rfl) (Reps.one (show Kd.M (Kd.int .u8) _ _ _ 0 [.int .u8 0] from rfl) (Reps.none _ _))))); intro v306 w80 ho81 hb hg_ hnew_; clear hg_ hnew_; (rw [← Ny305.out] at ho81); have n0_ := Aside0.mk (Kd.R_elder' (by (with_reducible repeat (fail)); exact HO_10.out) (Kd.R_base ho81) hb); have n1_ := Aside0.mk (Kd.R_elder' (by (with_reducible repeat (fail)); exact HO304.out) (Kd.R_base ho81) hb); have n2_ := Aside0.mk (Kd.R_lower (Kd.R_new' (Kd.R_new' ho81 (Kd.R_lt (by (with_reducible repeat (fail)); exact HO_10.out))) (Kd.R_lt (by (with_reducible repeat (fail)); exact HO304.out))) (below_size (by repeat ((with_reducible exact HB.out))))); have n3_ := Aside0.mk (below_step (by repeat ((with_reducible exact HB.out))) hb); clear HO_10; clear HO304; clear HB; have HO_10 := n0_; have HO304 := n1_; have HO307 := n2_; have HB := n3_; clear n0_ n1_ n2_ n3_; clear hb ho81; obtain ⟨Ao83, co83, eo83⟩ := Kd.R_slice HO307.out; subst eo83) | ((with_reducible refine gate_builtin (b := .append) (xs := #[.tmp 70, .tmp 71]) rfl ?_); (try (refine gate_guard (by rfl) ?_; dsimp only)); at_builtin; refine Kd.R_append_rows (Kd.int .u8) (w0 := w) w.heap.size rfl (.tmp 70) (.tmp 71) 34 5 (.int .u8 0) 1 rfl Try.underlying34 info5 rfl (by decide) (by omega) v303 y302 y305 _ _ _ (fun k_ => some k_ ≠ (.slice Ao79 t295.length co79 : Value).ownBlock ∧ some k_ ≠ (.slice Ao83 y305.length co83 : Value).ownBlock) (fun _ => False) rfl rfl ?aO ?aR (fun _ _ h => h) (fun _ h => h.elim) ?aF ?aB ?aS ?aL ?_; (case aR => repeat (exact (Kd.R_reads' HO307.out).2.2)); (case aB => exact (by repeat ((with_reducible exact HB.out)))); (case aF => exact (fun k_ hk => ⟨Kd.fresh' (Kd.R_lt (by (with_reducible repeat (fail)); exact HO_10.out)) k_ hk, Kd.fresh' (Kd.R_lt (by (with_reducible repeat (fail)); exact HO307.out)) k_ hk⟩)); (case aO => exact (by (with_reducible repeat (fail)); exact HO304.out)); (case aS => exact (below_size (by repeat ((with_reducible exact HB.out))))); (case aL => have := LMc38.out; omega); intro v309 w82 ho hb hg hat; rw [← Ny308.out] at ho; have n0_ := Aside0.mk (Kd.R_after (ok := (fun k_ => some k_ ≠ (.slice Ao83 y305.length co83 : Value).ownBlock)) (by (with_reducible repeat (fail)); exact Kd.R_mono HO_10.out (fun _ hk => ⟨hk.2, hk.1.2⟩)) hg hat); have n1_ := Aside0.mk (Kd.R_after (ok := (fun k_ => some k_ ≠ (.slice Ao79 t295.length co79 : Value).ownBlock)) (by (with_reducible repeat (fail)); exact Kd.R_mono HO307.out (fun _ hk => ⟨hk.1.2, hk.2⟩)) hg hat); have n2_ := Aside0.mk (hb); have n3_ := Aside0.mk (ho); clear HO_10; clear HO307; clear HB; clear HO304; have HO_10 := n0_; have HO307 := n1_; have HB := n2_; have HO310 := n3_; clear n0_ n1_ n2_ n3_; clear ho hb hg hat; obtain ⟨Ao84, co84, eo84⟩ := Kd.R_slice HO310.out; subst eo84) | ((with_reducible refine gate_callee (f := 13) rfl ?_); refine goesL_ (some 73) rfl rfl Try.func13 (by kernel_rfl) rfl #[.slice Ao84 y308.length co84] rfl (by (try simp only [List.map_toArray, List.map_cons, List.map_nil]); rfl) ?_; (with_reducible refine (code_Lines.calls kj28 _ _ y308 t311 t312 _ ?side1 ?side2 A39.out).mono ?_); (case side1 => repeat (exact (Kd.R_reads' HO310.out).2.2)); (case side2 => exact (Kd.R_reads' HO310.out).2.1); rintro e w85 ⟨v313, rfl, ho0, hb⟩; refine ⟨_, rfl, ?_⟩; have n0_ := Aside0.mk (Kd.R_below (by (with_reducible repeat (fail)); exact HO_10.out) hb); have n1_ := Aside0.mk (Kd.R_below (by (with_reducible repeat (fail)); exact HO307.out) hb); have n2_ := Aside0.mk (Kd.R_below (by (with_reducible repeat (fail)); exact HO310.out) hb); have n3_ := Aside0.mk (Kd.R_lower ho0 (below_size (by repeat ((with_reducible exact HB.out))))); have n4_ := Aside0.mk (below_step (by repeat ((with_reducible exact HB.out))) hb); clear HO_10; clear HO307; clear HO310; clear HB; have HO_10 := n0_; have HO307 := n1_; have HO310 := n2_; have HO314 := n3_; have HB := n4_; clear n0_ n1_ n2_ n3_ n4_; (try clear hb); (try clear ho0)))
                go_ret
                exact ⟨by rfl, by repeat ((with_reducible exact HB.out))⟩
              ·rw [if_neg c38] at H
               exact absurd H (by simp)
             ·rw [if_neg c37] at H
              exact absurd H (by simp)
            ·replace c36 := Bool.eq_false_iff.mpr c36
             subst c36
             have H1 : (brazierlaw19_CodeBytes.j2 kj28 y286) = some r := by rw [if_neg (show ¬ (false = true) by decide)] at H; exact H
             clear H
             have H := H1
             clear H1
             have H' := Aside0.mk H
             clear H
             go_wp2
             go_meet
             case rel => exact ⟨_, H', ⟨by have := HK1.out; have := HJ28.out; omega⟩, ⟨by repeat ((with_reducible exact HB.out))⟩⟩
           case rest =>
            clear HC35
            obtain ⟨kq, HA, HJ34, HB⟩ := hcut
            cases kq with
            | zero => exact absurd HA.out (by simp [brazierlaw19_CodeBytes.j2])
            | succ kj34 =>
             have H := HA.out
             clear HA
             simp only [brazierlaw19_CodeBytes.j2] at H
             replace H := Option.bind_eq_some_iff.mp H
             obtain ⟨⟨t316, t317⟩, A860, H⟩ := H
             replace H : (if t317 = (wrap64 (4 * (t316.length : Int))) then (brazierlaw19_CodeBytes.j3 kj34 y286 t316 t317 (decide (t317 > (y286.length : Int)))) else (brazierlaw19_CodeBytes.j3 kj34 y286 t316 t317 true)) = some r := H
             have A86 := Aside0.mk A860
             clear A860
             have HC87 := Aside0.mk H
             clear H
             go_upto_region 19 with (((with_reducible refine gate_callee (f := 13) rfl ?_); refine goesL_ (some 95) rfl rfl Try.func13 (by kernel_rfl) rfl #[.slice A1 y286.length c1] rfl (by (try simp only [List.map_toArray, List.map_cons, List.map_nil]); rfl) ?_; (with_reducible refine (code_Lines.calls kj34 _ _ y286 t316 t317 _ ?side1 ?side2 A86.out).mono ?_); (case side1 => repeat (exact (Kd.C_below HR289.out HB.out))); (case side2 => exact HC289.out); rintro e w88 ⟨v318, rfl, ho0, hb⟩; refine ⟨_, rfl, ?_⟩; have n0_ := Aside0.mk (Kd.R_lower ho0 (below_size (by repeat ((with_reducible exact HB.out))))); have n1_ := Aside0.mk (below_step (by repeat ((with_reducible exact HB.out))) hb); clear HB; have HO319 := n0_; have HB := n1_; clear n0_ n1_; (try clear hb); (try clear ho0)))
             go_cut [108] (fun v108 wc => ∃ (kq : Nat) (x108_86 : Bool), v108 = .bool x108_86 ∧ Aside0 (brazierlaw19_CodeBytes.j3 kq y286 t316 t317 x108_86 = some r) ∧ Aside0 (kq ≤ kj34) ∧ Aside0 (Kd.R k23 23 wc w.heap.size (fun _ => True) v318 t316) ∧ Aside0 (Below w.heap.size w wc))
             case first =>
              have H := HC87.out
              clear HC87
              by_cases c89 : t317 = (wrap64 (4 * (t316.length : Int)))
              ·rw [if_pos c89] at H
               have c89b0 : (t317 == (wrap64 (4 * (t316.length : Int)))) = true := beq_iff_eq.mpr c89
               have c89b1 : (t317 != (wrap64 (4 * (t316.length : Int)))) = false := bne_eq_false_iff_eq.mpr c89
               clear c89
               have H' := Aside0.mk H
               clear H
               obtain ⟨Ao90, co90, eo90⟩ := Kd.R_slice HO319.out
               subst eo90
               go_wp2
               go_meet
               case rel => exact ⟨_, (decide (t317 > (y286.length : Int))), (by rfl), H', ⟨by have := HK1.out; have := HJ28.out; have := HJ34.out; omega⟩, ⟨by (with_reducible repeat (fail)); exact HO319.out⟩, ⟨by repeat ((with_reducible exact HB.out))⟩⟩
              ·rw [if_neg c89] at H
               have c89b0 : (t317 == (wrap64 (4 * (t316.length : Int)))) = false := beq_eq_false_iff_ne.mpr c89
               have c89b1 : (t317 != (wrap64 (4 * (t316.length : Int)))) = true := bne_iff_ne.mpr c89
               have H' := Aside0.mk H
               clear H
               obtain ⟨Ao91, co91, eo91⟩ := Kd.R_slice HO319.out
               subst eo91
               go_wp2
               go_meet
               case rel => exact ⟨_, (true), (by rfl), H', ⟨by have := HK1.out; have := HJ28.out; have := HJ34.out; omega⟩, ⟨by (with_reducible repeat (fail)); exact HO319.out⟩, ⟨by repeat ((with_reducible exact HB.out))⟩⟩
             case rest =>
              clear HC87
              obtain ⟨kq, x108_86, rfl, HA, HJ86, HO_14, HB⟩ := hcut
              cases kq with
              | zero => exact absurd HA.out (by simp [brazierlaw19_CodeBytes.j3])
              | succ kj86 =>
               have H := HA.out
               clear HA
               simp only [brazierlaw19_CodeBytes.j3] at H
               by_cases c92 : x108_86 = true
               ·subst c92
                have H1 : (some false) = some r := by rw [if_pos rfl] at H; exact H
                clear H
                have H := H1
                clear H1
                obtain rfl := Option.some.inj H
                go_wp2
                go_ret
                exact ⟨by rfl, by repeat ((with_reducible exact HB.out))⟩
               ·replace c92 := Bool.eq_false_iff.mpr c92
                subst c92
                have H1 : ((code_Bytes.f kj86 t316).bind fun bt320 => (if bt320.2 = true then (if 0 ≤ t317 then (if t317 ≤ (y286.length : Int) then (brazierlaw19_CodeBytes.j4 kj86 y286 t317 ((strOfNums bt320.1).toList != (strOfNums (y286.take (t317 : Int).toNat)).toList)) else (none)) else (none)) else (brazierlaw19_CodeBytes.j4 kj86 y286 t317 true))) = some r := by rw [if_neg (show ¬ (false = true) by decide)] at H; exact H
                clear H
                have H := H1
                clear H1
                replace H := Option.bind_eq_some_iff.mp H
                obtain ⟨⟨t320, t321⟩, A930, H⟩ := H
                replace H : (if t321 = true then (if 0 ≤ t317 then (if t317 ≤ (y286.length : Int) then (brazierlaw19_CodeBytes.j4 kj86 y286 t317 ((strOfNums t320).toList != (strOfNums (y286.take (t317 : Int).toNat)).toList)) else (none)) else (none)) else (brazierlaw19_CodeBytes.j4 kj86 y286 t317 true)) = some r := H
                have A93 := Aside0.mk A930
                clear A930
                have HC94 := Aside0.mk H
                clear H
                obtain ⟨Ao95, co95, eo95⟩ := Kd.R_slice HO_14.out
                subst eo95
                go_upto_region 22 with (((with_reducible refine gate_callee (f := 12) rfl ?_); refine goesL_ (some 111) rfl rfl Try.func12 (by kernel_rfl) rfl #[.slice Ao95 t316.length co95] rfl (by (try simp only [List.map_toArray, List.map_cons, List.map_nil]); rfl) ?_; (with_reducible refine (code_Bytes.calls kj86 _ _ t316 t320 t321 _ ?side1 ?side2 A93.out).mono ?_); (case side1 => repeat (exact (Kd.R_reads' HO_14.out).2.2)); (case side2 => exact (Kd.R_reads' HO_14.out).2.1); rintro e w96 ⟨v322, rfl, ho0, hb⟩; refine ⟨_, rfl, ?_⟩; have n0_ := Aside0.mk (Kd.R_below (by (with_reducible repeat (fail)); exact HO_14.out) hb); have n1_ := Aside0.mk (Kd.R_lower ho0 (below_size (by repeat ((with_reducible exact HB.out))))); have n2_ := Aside0.mk (below_step (by repeat ((with_reducible exact HB.out))) hb); clear HO_14; clear HB; have HO_14 := n0_; have HO323 := n1_; have HB := n2_; clear n0_ n1_ n2_; (try clear hb); (try clear ho0)))
                go_cut [124] (fun v124 wc => ∃ (kq : Nat) (x124_93 : Bool), v124 = .bool x124_93 ∧ Aside0 (brazierlaw19_CodeBytes.j4 kq y286 t317 x124_93 = some r) ∧ Aside0 (kq ≤ kj86) ∧ Aside0 (Below w.heap.size w wc))
                case first =>
                 have H := HC94.out
                 clear HC94
                 by_cases c97 : t321 = true
                 ·subst c97
                  have H1 : (if 0 ≤ t317 then (if t317 ≤ (y286.length : Int) then (brazierlaw19_CodeBytes.j4 kj86 y286 t317 ((strOfNums t320).toList != (strOfNums (y286.take (t317 : Int).toNat)).toList)) else (none)) else (none)) = some r := by rw [if_pos rfl] at H; exact H
                  clear H
                  have H := H1
                  clear H1
                  by_cases c98 : 0 ≤ t317
                  ·rw [if_pos c98] at H
                   have c98b0 := eq_true c98
                   have c98b1 : decide (0 ≤ t317) = true := decide_eq_true c98
                   clear c98
                   by_cases c99 : t317 ≤ (y286.length : Int)
                   ·rw [if_pos c99] at H
                    have c99b0 := eq_true c99
                    have c99b1 : decide (t317 ≤ (y286.length : Int)) = true := decide_eq_true c99
                    clear c99
                    obtain ⟨y324, hy324⟩ : ∃ y_ : List Int, y_ = (y286.take (t317 : Int).toNat) := ⟨_, rfl⟩
                    replace H : (brazierlaw19_CodeBytes.j4 kj86 y286 t317 ((strOfNums t320).toList != (strOfNums y324).toList)) = some r := by (rw [hy324]; with_reducible exact H)
                    have Ny324 := Aside0.mk hy324
                    clear hy324
                    have H' := Aside0.mk H
                    clear H
                    try go_wp2
                    have q101 : (t317 : Int) ≤ ((y286.length : Int) : Int) := of_decide_eq_true (by (with_reducible assumption))
                    obtain ⟨i0101, hi0101, _, hsz101, _⟩ := info_parts info5
                    have hroom101 : y286.length ≤ c1 := HC289.out
                    have hC101 : Kd.C (Kd.int .u8) _ A1 y286.length y286 := HR289.out
                    have hcut101 := cut_to (P := Try.prog) 34 5 .i64 Try.underlying34 hi0101 A1 y286.length c1 t317 (of_decide_eq_true (by (with_reducible assumption))) q101 hroom101
                    have hr101 := Kd.C_take (m := (t317 : Int).toNat) hC101 (by omega)
                    have hy101 : y324.length = (t317 : Int).toNat := (by rw [Ny324.out, List.length_take]; omega)
                    rw [← Ny324.out] at hr101
                    rw [← hy101] at hcut101
                    have HR327 := Aside0.mk hr101
                    have HC327 := Aside0.mk (show y324.length ≤ c1 from by omega)
                    clear hr101 hC101 hroom101 hi0101 hsz101
                    have KY101 := Aside0.mk hy101
                    clear hy101
                    replace q101 := eq_true q101
                    have hcv102 := fun n_ : Nat => own_string (P := Try.prog) Try.underlying34 Try.underlying5 Try.underlying9 (Kd.own_of_R (Kd.R_drewN HO323.out n_))
                    have hcv103 := fun n_ : Nat => Kd.C_string (P := Try.prog) (A := A1) (c := c1) Try.underlying34 Try.underlying5 Try.underlying9 (Kd.C_drewN (Kd.C_below HR327.out HB.out) n_)
                    go_quiet (fail)
                    try go_wp2
                    go_meet
                    case rel => exact ⟨_, (((strOfNums t320).toList != (strOfNums y324).toList)), (by rfl), H', ⟨by have := HK1.out; have := HJ28.out; have := HJ34.out; have := HJ86.out; omega⟩, ⟨by repeat ((with_reducible first | exact HB.out | apply pw_below_drewN))⟩⟩
                   ·rw [if_neg c99] at H
                    exact absurd H (by simp)
                  ·rw [if_neg c98] at H
                   exact absurd H (by simp)
                 ·replace c97 := Bool.eq_false_iff.mpr c97
                  subst c97
                  have H1 : (brazierlaw19_CodeBytes.j4 kj86 y286 t317 true) = some r := by rw [if_neg (show ¬ (false = true) by decide)] at H; exact H
                  clear H
                  have H := H1
                  clear H1
                  have H' := Aside0.mk H
                  clear H
                  try go_wp2
                  have n0_ := Aside0.mk (Kd.R_drew HO_14.out)
                  have n1_ := Aside0.mk (Kd.R_drew HO323.out)
                  have n2_ := Aside0.mk (below_drew1 HB.out)
                  clear HO_14 HO323 HB
                  have HO_14 := n0_
                  have HO323 := n1_
                  have HB := n2_
                  clear n0_ n1_ n2_
                  refine start_ (n := 11) (S := fun w' => True) (ds := []) #[Z, Z, Z, Z, Z, Z, Z, Z, Z, Z, Z] (by kernel_rfl) rfl rfl trivial (fun hHeld => ?_); refine with_tabW brazierlaw19_CodeBytes.tab22 brazierlaw19_CodeBytes.bits22 (fun HT_ HW_ => ?_)
                  generalize w96.drew = w105 at HO_14 HO323 HB hHeld ⊢
                  refine pure_ (i := 0) (N := some 114) (v := ?_) (a' := ?_) #[Y, Z, Z, Z, Z, Z, Z, Z, Z, Z, Z] rfl rfl (any_of HT_.out (by kernel_rfl)) (fun _ _ _ h => h) (Or.inl ⟨by rfl, ?_⟩) ?_ ?_
                  rotate_left
                  ·intro w'
                   go_simp
                   with_reducible rfl
                  rotate_left
                  ·simp only [Act.put, List.setIfInBounds_toArray, List.set_cons_zero, List.set_cons_succ, i64_w, i32_w]
                   rfl
                  refine pure_ (i := 1) (N := some 115) (v := ?_) (a' := ?_) #[Y, Y, Z, Z, Z, Z, Z, Z, Z, Z, Z] rfl rfl (any_of HT_.out (by kernel_rfl)) (fun _ _ _ h => h) (Or.inl ⟨by rfl, ?_⟩) ?_ ?_
                  rotate_left
                  ·intro w'
                   go_simp
                   with_reducible rfl
                  rotate_left
                  ·simp only [Act.put, List.setIfInBounds_toArray, List.set_cons_zero, List.set_cons_succ, i64_w, i32_w]
                   rfl
                  refine pure_ (i := 2) (N := some 116) (v := ?_) (a' := ?_) #[Y, Y, Y, Z, Z, Z, Z, Z, Z, Z, Z] rfl rfl (any_of HT_.out (by kernel_rfl)) (fun _ _ _ h => h) (Or.inl ⟨by rfl, ?_⟩) ?_ ?_
                  rotate_left
                  ·intro w'
                   go_simp
                   with_reducible rfl
                  rotate_left
                  ·simp only [Act.put, List.setIfInBounds_toArray, List.set_cons_zero, List.set_cons_succ, i64_w, i32_w]
                   rfl
                  refine pure_ (i := 3) (N := some 117) (v := undef) (a' := ?_) #[Y, Y, Y, Y, Z, Z, Z, Z, Z, Z, Z] rfl rfl (any_of HT_.out (by kernel_rfl)) (fun _ _ _ h => h) (Or.inr ⟨by rfl, rfl⟩) ?_ ?_
                  rotate_left
                  ·simp only [Act.put, List.setIfInBounds_toArray, List.set_cons_zero, List.set_cons_succ, i64_w, i32_w]
                   rfl
                  refine pure_ (i := 4) (N := some 118) (v := undef) (a' := ?_) #[Y, Y, Y, Y, Y, Z, Z, Z, Z, Z, Z] rfl rfl (any_of HT_.out (by kernel_rfl)) (fun _ _ _ h => h) (Or.inr ⟨by rfl, rfl⟩) ?_ ?_
                  rotate_left
                  ·simp only [Act.put, List.setIfInBounds_toArray, List.set_cons_zero, List.set_cons_succ, i64_w, i32_w]
                   rfl
                  refine pure_ (i := 5) (N := some 119) (v := undef) (a' := ?_) #[Y, Y, Y, Y, Y, Y, Z, Z, Z, Z, Z] rfl rfl (any_of HT_.out (by kernel_rfl)) (fun _ _ _ h => h) (Or.inr ⟨by rfl, rfl⟩) ?_ ?_
                  rotate_left
                  ·simp only [Act.put, List.setIfInBounds_toArray, List.set_cons_zero, List.set_cons_succ, i64_w, i32_w]
                   rfl
                  refine pure_ (i := 6) (N := some 120) (v := undef) (a' := ?_) #[Y, Y, Y, Y, Y, Y, Y, Z, Z, Z, Z] rfl rfl (any_of HT_.out (by kernel_rfl)) (fun _ _ _ h => h) (Or.inr ⟨by rfl, rfl⟩) ?_ ?_
                  rotate_left
                  ·simp only [Act.put, List.setIfInBounds_toArray, List.set_cons_zero, List.set_cons_succ, i64_w, i32_w]
                   rfl
                  refine pure_ (i := 7) (N := some 121) (v := undef) (a' := ?_) #[Y, Y, Y, Y, Y, Y, Y, Y, Z, Z, Z] rfl rfl (any_of HT_.out (by kernel_rfl)) (fun _ _ _ h => h) (Or.inr ⟨by rfl, rfl⟩) ?_ ?_
                  rotate_left
                  ·simp only [Act.put, List.setIfInBounds_toArray, List.set_cons_zero, List.set_cons_succ, i64_w, i32_w]
                   rfl
                  refine pure_ (i := 8) (N := some 122) (v := undef) (a' := ?_) #[Y, Y, Y, Y, Y, Y, Y, Y, Y, Z, Z] rfl rfl (any_of HT_.out (by kernel_rfl)) (fun _ _ _ h => h) (Or.inr ⟨by rfl, rfl⟩) ?_ ?_
                  rotate_left
                  ·simp only [Act.put, List.setIfInBounds_toArray, List.set_cons_zero, List.set_cons_succ, i64_w, i32_w]
                   rfl
                  refine pure_ (i := 9) (N := some 123) (v := undef) (a' := ?_) #[Y, Y, Y, Y, Y, Y, Y, Y, Y, Y, Z] rfl rfl (any_of HT_.out (by kernel_rfl)) (fun _ _ _ h => h) (Or.inr ⟨by rfl, rfl⟩) ?_ ?_
                  rotate_left
                  ·simp only [Act.put, List.setIfInBounds_toArray, List.set_cons_zero, List.set_cons_succ, i64_w, i32_w]
                   rfl
                  refine pure_ (i := 10) (N := some 124) (v := ?_) (a' := ?_) #[Y, Y, Y, Y, Y, Y, Y, Y, Y, Y, Y] rfl rfl (any_of HT_.out (by kernel_rfl)) (fun _ _ _ h => h) (Or.inl ⟨by rfl, ?_⟩) ?_ ?_
                  rotate_left
                  ·intro w'
                   go_simp
                   with_reducible rfl
                  rotate_left
                  ·simp only [Act.put, List.setIfInBounds_toArray, List.set_cons_zero, List.set_cons_succ, i64_w, i32_w]
                   rfl
                  refine done_ (done_of HT_.out (by kernel_rfl)) ?_
                  try go_wp2
                  go_meet
                  case rel => exact ⟨_, (true), (by rfl), H', ⟨by have := HK1.out; have := HJ28.out; have := HJ34.out; have := HJ86.out; omega⟩, ⟨by repeat ((with_reducible exact HB.out))⟩⟩
                case rest =>
                 clear HC94
                 obtain ⟨kq, x124_93, rfl, HA, HJ93, HB⟩ := hcut
                 cases kq with
                 | zero => exact absurd HA.out (by simp [brazierlaw19_CodeBytes.j4])
                 | succ kj93 =>
                  have H := HA.out
                  clear HA
                  simp only [brazierlaw19_CodeBytes.j4] at H
                  by_cases c106 : x124_93 = true
                  ·subst c106
                   have H1 : (some false) = some r := by rw [if_pos rfl] at H; exact H
                   clear H
                   have H := H1
                   clear H1
                   obtain rfl := Option.some.inj H
                   go_wp2
                   go_ret
                   exact ⟨by rfl, by repeat ((with_reducible exact HB.out))⟩
                  ·replace c106 := Bool.eq_false_iff.mpr c106
                   subst c106
                   have H1 : (if (wrap64 ((y286.length : Int) - t317)) ≥ 4 then (if 0 ≤ t317 then (if t317 < (y286.length : Int) then (if 0 ≤ (wrap64 (t317 + 1)) then (if (wrap64 (t317 + 1)) < (y286.length : Int) then (if 0 ≤ (wrap64 (t317 + 2)) then (if (wrap64 (t317 + 2)) < (y286.length : Int) then (if 0 ≤ (wrap64 (t317 + 3)) then (if (wrap64 (t317 + 3)) < (y286.length : Int) then ((code_Decode.f kj93 (Go.bits .or .u32 (Go.bits .or .u32 (Go.bits .or .u32 ((rd y286 t317) % 4294967296) ((((rd y286 (wrap64 (t317 + 1))) % 4294967296) * 256) % 4294967296)) ((((rd y286 (wrap64 (t317 + 2))) % 4294967296) * 65536) % 4294967296)) ((((rd y286 (wrap64 (t317 + 3))) % 4294967296) * 16777216) % 4294967296))).bind fun bt332 => (if bt332.2.2.2.2.2.2.2 = true then (some false) else ((brazierlaw19_lives.f kj93).bind fun t341 => (some t341)))) else (none)) else (none)) else (none)) else (none)) else (none)) else (none)) else (none)) else (none)) else ((brazierlaw19_lives.f kj93).bind fun t342 => (some t342))) = some r := by rw [if_neg (show ¬ (false = true) by decide)] at H; exact H
                   clear H
                   have H := H1
                   clear H1
                   by_cases c107 : (wrap64 ((y286.length : Int) - t317)) ≥ 4
                   ·rw [if_pos c107] at H
                    have c107b0 : decide (4 ≤ (wrap64 ((y286.length : Int) - t317))) = true := decide_eq_true c107
                    clear c107
                    by_cases c108 : 0 ≤ t317
                    ·rw [if_pos c108] at H
                     have c108b0 : decide (0 ≤ t317) = true := decide_eq_true c108
                     clear c108
                     by_cases c109 : t317 < (y286.length : Int)
                     ·rw [if_pos c109] at H
                      have c109b0 : decide (t317 < (y286.length : Int)) = true := decide_eq_true c109
                      clear c109
                      obtain ⟨ji110, hji110⟩ : ∃ j_ : Int, (wrap64 (t317 + 1)) = j_ := ⟨_, rfl⟩
                      replace H : (if 0 ≤ (ji110) then (if (ji110) < (y286.length : Int) then (if 0 ≤ (wrap64 (t317 + 2)) then (if (wrap64 (t317 + 2)) < (y286.length : Int) then (if 0 ≤ (wrap64 (t317 + 3)) then (if (wrap64 (t317 + 3)) < (y286.length : Int) then ((code_Decode.f kj93 (Go.bits .or .u32 (Go.bits .or .u32 (Go.bits .or .u32 ((rd y286 t317) % 4294967296) ((((rd y286 (ji110)) % 4294967296) * 256) % 4294967296)) ((((rd y286 (wrap64 (t317 + 2))) % 4294967296) * 65536) % 4294967296)) ((((rd y286 (wrap64 (t317 + 3))) % 4294967296) * 16777216) % 4294967296))).bind fun bt332 => (if bt332.2.2.2.2.2.2.2 = true then (some false) else ((brazierlaw19_lives.f kj93).bind fun t341 => (some t341)))) else (none)) else (none)) else (none)) else (none)) else (none)) else (none)) = some r := by (rw [hji110] at H; exact H)
                      have hji110w : (IntKind.i64.wrap (t317 + 1)) = ji110 := (i64_w _).trans hji110
                      by_cases c111 : 0 ≤ (ji110)
                      ·rw [if_pos c111] at H
                       have c111b0 : decide (0 ≤ (ji110)) = true := decide_eq_true c111
                       clear c111
                       by_cases c112 : (ji110) < (y286.length : Int)
                       ·rw [if_pos c112] at H
                        have c112b0 : decide ((ji110) < (y286.length : Int)) = true := decide_eq_true c112
                        clear c112
                        obtain ⟨ji113, hji113⟩ : ∃ j_ : Int, (wrap64 (t317 + 2)) = j_ := ⟨_, rfl⟩
                        replace H : (if 0 ≤ (ji113) then (if (ji113) < (y286.length : Int) then (if 0 ≤ (wrap64 (t317 + 3)) then (if (wrap64 (t317 + 3)) < (y286.length : Int) then ((code_Decode.f kj93 (Go.bits .or .u32 (Go.bits .or .u32 (Go.bits .or .u32 ((rd y286 t317) % 4294967296) ((((rd y286 (ji110)) % 4294967296) * 256) % 4294967296)) ((((rd y286 (ji113)) % 4294967296) * 65536) % 4294967296)) ((((rd y286 (wrap64 (t317 + 3))) % 4294967296) * 16777216) % 4294967296))).bind fun bt332 => (if bt332.2.2.2.2.2.2.2 = true then (some false) else ((brazierlaw19_lives.f kj93).bind fun t341 => (some t341)))) else (none)) else (none)) else (none)) else (none)) = some r := by (rw [hji113] at H; exact H)
                        have hji113w : (IntKind.i64.wrap (t317 + 2)) = ji113 := (i64_w _).trans hji113
                        by_cases c114 : 0 ≤ (ji113)
                        ·rw [if_pos c114] at H
                         have c114b0 : decide (0 ≤ (ji113)) = true := decide_eq_true c114
                         clear c114
                         by_cases c115 : (ji113) < (y286.length : Int)
                         ·rw [if_pos c115] at H
                          have c115b0 : decide ((ji113) < (y286.length : Int)) = true := decide_eq_true c115
                          clear c115
                          obtain ⟨ji116, hji116⟩ : ∃ j_ : Int, (wrap64 (t317 + 3)) = j_ := ⟨_, rfl⟩
                          replace H : (if 0 ≤ (ji116) then (if (ji116) < (y286.length : Int) then ((code_Decode.f kj93 (Go.bits .or .u32 (Go.bits .or .u32 (Go.bits .or .u32 ((rd y286 t317) % 4294967296) ((((rd y286 (ji110)) % 4294967296) * 256) % 4294967296)) ((((rd y286 (ji113)) % 4294967296) * 65536) % 4294967296)) ((((rd y286 (ji116)) % 4294967296) * 16777216) % 4294967296))).bind fun bt332 => (if bt332.2.2.2.2.2.2.2 = true then (some false) else ((brazierlaw19_lives.f kj93).bind fun t341 => (some t341)))) else (none)) else (none)) = some r := by (rw [hji116] at H; exact H)
                          have hji116w : (IntKind.i64.wrap (t317 + 3)) = ji116 := (i64_w _).trans hji116
                          by_cases c117 : 0 ≤ (ji116)
                          ·rw [if_pos c117] at H
                           have c117b0 : decide (0 ≤ (ji116)) = true := decide_eq_true c117
                           clear c117
                           by_cases c118 : (ji116) < (y286.length : Int)
                           ·rw [if_pos c118] at H
                            have c118b0 : decide ((ji116) < (y286.length : Int)) = true := decide_eq_true c118
                            clear c118
                            replace H := Option.bind_eq_some_iff.mp H
                            obtain ⟨⟨t332, t333, t334, t335, t336, t337, t338, t339⟩, A1190, H⟩ := H
                            replace H : (if t339 = true then (some false) else ((brazierlaw19_lives.f kj93).bind fun t341 => (some t341))) = some r := H
                            have A119 := Aside0.mk A1190
                            clear A1190
                            by_cases c120 : t339 = true
                            ·subst c120
                             have H1 : (some false) = some r := by rw [if_pos rfl] at H; exact H
                             clear H
                             have H := H1
                             clear H1
                             obtain rfl := Option.some.inj H
                             try go_wp2
                             have n0_ := Aside0.mk (below_drew1 HB.out)
                             clear HB
                             have HB := n0_
                             clear n0_
                             have p328 : 0 ≤ (t317 : Int) := of_decide_eq_true (by (with_reducible assumption))
                             have q328 : t317 < (y286.length : Int) := of_decide_eq_true (by (with_reducible assumption))
                             obtain ⟨ad328, e328, hx328_0⟩ := Kd.at_int HR289.out t317 p328 q328
                             have hw328_0 := hx328_0
                             cases e328
                             replace hx328_0 := (HB.out.cell (World.block_lt_of_cell? w _ hx328_0)).trans hx328_0
                             replace p328 := eq_true p328
                             replace q328 := eq_true q328
                             have p329 : 0 ≤ ((ji110) : Int) := of_decide_eq_true (by (with_reducible assumption))
                             have q329 : (ji110) < (y286.length : Int) := of_decide_eq_true (by (with_reducible assumption))
                             obtain ⟨ad329, e329, hx329_0⟩ := Kd.at_int HR289.out (ji110) p329 q329
                             have hw329_0 := hx329_0
                             obtain rfl : ad328 = ad329 := (by injection e329)
                             replace hx329_0 := (HB.out.cell (World.block_lt_of_cell? w _ hx329_0)).trans hx329_0
                             replace p329 := eq_true p329
                             replace q329 := eq_true q329
                             have p330 : 0 ≤ ((ji113) : Int) := of_decide_eq_true (by (with_reducible assumption))
                             have q330 : (ji113) < (y286.length : Int) := of_decide_eq_true (by (with_reducible assumption))
                             obtain ⟨ad330, e330, hx330_0⟩ := Kd.at_int HR289.out (ji113) p330 q330
                             have hw330_0 := hx330_0
                             obtain rfl : ad328 = ad330 := (by injection e330)
                             replace hx330_0 := (HB.out.cell (World.block_lt_of_cell? w _ hx330_0)).trans hx330_0
                             replace p330 := eq_true p330
                             replace q330 := eq_true q330
                             have p331 : 0 ≤ ((ji116) : Int) := of_decide_eq_true (by (with_reducible assumption))
                             have q331 : (ji116) < (y286.length : Int) := of_decide_eq_true (by (with_reducible assumption))
                             obtain ⟨ad331, e331, hx331_0⟩ := Kd.at_int HR289.out (ji116) p331 q331
                             have hw331_0 := hx331_0
                             obtain rfl : ad328 = ad331 := (by injection e331)
                             replace hx331_0 := (HB.out.cell (World.block_lt_of_cell? w _ hx331_0)).trans hx331_0
                             replace p331 := eq_true p331
                             replace q331 := eq_true q331
                             refine start_ (n := 36) (S := fun w' => w'.cell? (ad328.add (t317).toNat) = some (.int .u8 (rd y286 t317)) ∧ w'.cell? (ad328.add ((ji110)).toNat) = some (.int .u8 (rd y286 (ji110))) ∧ w'.cell? (ad328.add ((ji113)).toNat) = some (.int .u8 (rd y286 (ji113))) ∧ w'.cell? (ad328.add ((ji116)).toNat) = some (.int .u8 (rd y286 (ji116)))) (ds := []) #[Z, Z, Z, Z, Z, Z, Z, Z, Z, Z, Z, Z, Z, Z, Z, Z, Z, Z, Z, Z, Z, Z, Z, Z, Z, Z, Z, Z, Z, Z, Z, Z, Z, Z, Z, Z] (by kernel_rfl) rfl rfl ⟨((HB.out.cell (World.block_lt_of_cell? w _ hw328_0)).trans hw328_0), ((HB.out.cell (World.block_lt_of_cell? w _ hw329_0)).trans hw329_0), ((HB.out.cell (World.block_lt_of_cell? w _ hw330_0)).trans hw330_0), ((HB.out.cell (World.block_lt_of_cell? w _ hw331_0)).trans hw331_0)⟩ (fun hHeld => ?_); refine with_tabW brazierlaw19_CodeBytes.tab25 brazierlaw19_CodeBytes.bits25 (fun HT_ HW_ => ?_)
                             generalize wc.drew = w121 at HB hx328_0 hx329_0 hx330_0 hx331_0 hHeld ⊢
                             refine pure_ (i := 0) (N := some 131) (v := ?_) (a' := ?_) #[Y, Z, Z, Z, Z, Z, Z, Z, Z, Z, Z, Z, Z, Z, Z, Z, Z, Z, Z, Z, Z, Z, Z, Z, Z, Z, Z, Z, Z, Z, Z, Z, Z, Z, Z, Z] rfl rfl (any_of HT_.out (by kernel_rfl)) (fun _ _ _ h => h) (Or.inl ⟨by rfl, ?_⟩) ?_ ?_
                             rotate_left
                             ·intro w'
                              go_simp
                              with_reducible rfl
                             rotate_left
                             ·simp only [Act.put, List.setIfInBounds_toArray, List.set_cons_zero, List.set_cons_succ, i64_w, i32_w]
                              rfl
                             refine pure_ (i := 1) (N := some 132) (v := ?_) (a' := ?_) #[Y, Y, Z, Z, Z, Z, Z, Z, Z, Z, Z, Z, Z, Z, Z, Z, Z, Z, Z, Z, Z, Z, Z, Z, Z, Z, Z, Z, Z, Z, Z, Z, Z, Z, Z, Z] rfl rfl (any_of HT_.out (by kernel_rfl)) (fun _ _ _ h => h) (Or.inl ⟨by rfl, ?_⟩) ?_ ?_
                             rotate_left
                             ·intro w'
                              go_simp
                              with_reducible rfl
                             rotate_left
                             ·simp only [Act.put, List.setIfInBounds_toArray, List.set_cons_zero, List.set_cons_succ, i64_w, i32_w]
                              rfl
                             refine pure_ (i := 2) (N := some 133) (v := ?_) (a' := ?_) #[Y, Y, Y, Z, Z, Z, Z, Z, Z, Z, Z, Z, Z, Z, Z, Z, Z, Z, Z, Z, Z, Z, Z, Z, Z, Z, Z, Z, Z, Z, Z, Z, Z, Z, Z, Z] rfl rfl (any_of HT_.out (by kernel_rfl)) (fun _ _ _ h => h) (Or.inl ⟨by rfl, ?_⟩) ?_ ?_
                             rotate_left
                             ·intro w'
                              go_simp
                              with_reducible rfl
                             rotate_left
                             ·simp only [Act.put, List.setIfInBounds_toArray, List.set_cons_zero, List.set_cons_succ, i64_w, i32_w]
                              rfl
                             refine pure_ (i := 5) (N := some 136) (v := ?_) (a' := ?_) #[Y, Y, Y, Z, Z, Y, Z, Z, Z, Z, Z, Z, Z, Z, Z, Z, Z, Z, Z, Z, Z, Z, Z, Z, Z, Z, Z, Z, Z, Z, Z, Z, Z, Z, Z, Z] rfl rfl (any_of HT_.out (by kernel_rfl)) (fun _ _ _ h => h) (Or.inl ⟨by rfl, ?_⟩) ?_ ?_
                             rotate_left
                             ·intro w'
                              go_simp
                              with_reducible rfl
                             rotate_left
                             ·simp only [Act.put, List.setIfInBounds_toArray, List.set_cons_zero, List.set_cons_succ, i64_w, i32_w]
                              rfl
                             refine pure_ (i := 6) (N := some 137) (v := ?_) (a' := ?_) #[Y, Y, Y, Z, Z, Y, Y, Z, Z, Z, Z, Z, Z, Z, Z, Z, Z, Z, Z, Z, Z, Z, Z, Z, Z, Z, Z, Z, Z, Z, Z, Z, Z, Z, Z, Z] rfl rfl (any_of HT_.out (by kernel_rfl)) (fun _ _ _ h => h) (Or.inl ⟨by rfl, ?_⟩) ?_ ?_
                             rotate_left
                             ·intro w'
                              go_simp
                              with_reducible rfl
                             rotate_left
                             ·simp only [Act.put, List.setIfInBounds_toArray, List.set_cons_zero, List.set_cons_succ, i64_w, i32_w]
                              rfl
                             refine pure_ (i := 7) (N := some 138) (v := ?_) (a' := ?_) #[Y, Y, Y, Z, Z, Y, Y, Y, Z, Z, Z, Z, Z, Z, Z, Z, Z, Z, Z, Z, Z, Z, Z, Z, Z, Z, Z, Z, Z, Z, Z, Z, Z, Z, Z, Z] rfl rfl (any_of HT_.out (by kernel_rfl)) (fun _ _ _ h => h) (Or.inl ⟨by rfl, ?_⟩) ?_ ?_
                             rotate_left
                             ·intro w'
                              go_simp
                              with_reducible rfl
                             rotate_left
                             ·simp only [Act.put, List.setIfInBounds_toArray, List.set_cons_zero, List.set_cons_succ, i64_w, i32_w]
                              rfl
                             refine pure_ (i := 8) (N := some 139) (v := ?_) (a' := ?_) #[Y, Y, Y, Z, Z, Y, Y, Y, Y, Z, Z, Z, Z, Z, Z, Z, Z, Z, Z, Z, Z, Z, Z, Z, Z, Z, Z, Z, Z, Z, Z, Z, Z, Z, Z, Z] rfl rfl (any_of HT_.out (by kernel_rfl)) (fun _ _ _ h => h) (Or.inl ⟨by rfl, ?_⟩) ?_ ?_
                             rotate_left
                             ·intro w'
                              go_simp
                              with_reducible rfl
                             rotate_left
                             ·simp only [Act.put, List.setIfInBounds_toArray, List.set_cons_zero, List.set_cons_succ, i64_w, i32_w]
                              rfl
                             refine pure_ (i := 13) (N := some 144) (v := ?_) (a' := ?_) #[Y, Y, Y, Z, Z, Y, Y, Y, Y, Z, Z, Z, Z, Y, Z, Z, Z, Z, Z, Z, Z, Z, Z, Z, Z, Z, Z, Z, Z, Z, Z, Z, Z, Z, Z, Z] rfl rfl (any_of HT_.out (by kernel_rfl)) (fun _ _ _ h => h) (Or.inl ⟨by rfl, ?_⟩) ?_ ?_
                             rotate_left
                             ·intro w'
                              go_simp
                              with_reducible rfl
                             rotate_left
                             ·simp only [Act.put, List.setIfInBounds_toArray, List.set_cons_zero, List.set_cons_succ, i64_w, i32_w]
                              rfl
                             refine pure_ (i := 14) (N := some 145) (v := ?_) (a' := ?_) #[Y, Y, Y, Z, Z, Y, Y, Y, Y, Z, Z, Z, Z, Y, Y, Z, Z, Z, Z, Z, Z, Z, Z, Z, Z, Z, Z, Z, Z, Z, Z, Z, Z, Z, Z, Z] rfl rfl (any_of HT_.out (by kernel_rfl)) (fun _ _ _ h => h) (Or.inl ⟨by rfl, ?_⟩) ?_ ?_
                             rotate_left
                             ·intro w'
                              go_simp
                              with_reducible rfl
                             rotate_left
                             ·simp only [Act.put, List.setIfInBounds_toArray, List.set_cons_zero, List.set_cons_succ, i64_w, i32_w]
                              rfl
                             refine pure_ (i := 15) (N := some 146) (v := ?_) (a' := ?_) #[Y, Y, Y, Z, Z, Y, Y, Y, Y, Z, Z, Z, Z, Y, Y, Y, Z, Z, Z, Z, Z, Z, Z, Z, Z, Z, Z, Z, Z, Z, Z, Z, Z, Z, Z, Z] rfl rfl (any_of HT_.out (by kernel_rfl)) (fun _ _ _ h => h) (Or.inl ⟨by rfl, ?_⟩) ?_ ?_
                             rotate_left
                             ·intro w'
                              go_simp
                              with_reducible rfl
                             rotate_left
                             ·simp only [Act.put, List.setIfInBounds_toArray, List.set_cons_zero, List.set_cons_succ, i64_w, i32_w]
                              rfl
                             refine pure_ (i := 16) (N := some 147) (v := ?_) (a' := ?_) #[Y, Y, Y, Z, Z, Y, Y, Y, Y, Z, Z, Z, Z, Y, Y, Y, Y, Z, Z, Z, Z, Z, Z, Z, Z, Z, Z, Z, Z, Z, Z, Z, Z, Z, Z, Z] rfl rfl (any_of HT_.out (by kernel_rfl)) (fun _ _ _ h => h) (Or.inl ⟨by rfl, ?_⟩) ?_ ?_
                             rotate_left
                             ·intro w'
                              go_simp
                              with_reducible rfl
                             rotate_left
                             ·simp only [Act.put, List.setIfInBounds_toArray, List.set_cons_zero, List.set_cons_succ, i64_w, i32_w]
                              rfl
                             refine pure_ (i := 21) (N := some 152) (v := ?_) (a' := ?_) #[Y, Y, Y, Z, Z, Y, Y, Y, Y, Z, Z, Z, Z, Y, Y, Y, Y, Z, Z, Z, Z, Y, Z, Z, Z, Z, Z, Z, Z, Z, Z, Z, Z, Z, Z, Z] rfl rfl (any_of HT_.out (by kernel_rfl)) (fun _ _ _ h => h) (Or.inl ⟨by rfl, ?_⟩) ?_ ?_
                             rotate_left
                             ·intro w'
                              go_simp
                              with_reducible rfl
                             rotate_left
                             ·simp only [Act.put, List.setIfInBounds_toArray, List.set_cons_zero, List.set_cons_succ, i64_w, i32_w]
                              rfl
                             refine pure_ (i := 22) (N := some 153) (v := ?_) (a' := ?_) #[Y, Y, Y, Z, Z, Y, Y, Y, Y, Z, Z, Z, Z, Y, Y, Y, Y, Z, Z, Z, Z, Y, Y, Z, Z, Z, Z, Z, Z, Z, Z, Z, Z, Z, Z, Z] rfl rfl (any_of HT_.out (by kernel_rfl)) (fun _ _ _ h => h) (Or.inl ⟨by rfl, ?_⟩) ?_ ?_
                             rotate_left
                             ·intro w'
                              go_simp
                              with_reducible rfl
                             rotate_left
                             ·simp only [Act.put, List.setIfInBounds_toArray, List.set_cons_zero, List.set_cons_succ, i64_w, i32_w]
                              rfl
                             refine pure_ (i := 23) (N := some 154) (v := ?_) (a' := ?_) #[Y, Y, Y, Z, Z, Y, Y, Y, Y, Z, Z, Z, Z, Y, Y, Y, Y, Z, Z, Z, Z, Y, Y, Y, Z, Z, Z, Z, Z, Z, Z, Z, Z, Z, Z, Z] rfl rfl (any_of HT_.out (by kernel_rfl)) (fun _ _ _ h => h) (Or.inl ⟨by rfl, ?_⟩) ?_ ?_
                             rotate_left
                             ·intro w'
                              go_simp
                              with_reducible rfl
                             rotate_left
                             ·simp only [Act.put, List.setIfInBounds_toArray, List.set_cons_zero, List.set_cons_succ, i64_w, i32_w]
                              rfl
                             refine pure_ (i := 24) (N := some 155) (v := ?_) (a' := ?_) #[Y, Y, Y, Z, Z, Y, Y, Y, Y, Z, Z, Z, Z, Y, Y, Y, Y, Z, Z, Z, Z, Y, Y, Y, Y, Z, Z, Z, Z, Z, Z, Z, Z, Z, Z, Z] rfl rfl (any_of HT_.out (by kernel_rfl)) (fun _ _ _ h => h) (Or.inl ⟨by rfl, ?_⟩) ?_ ?_
                             rotate_left
                             ·intro w'
                              go_simp
                              with_reducible rfl
                             rotate_left
                             ·simp only [Act.put, List.setIfInBounds_toArray, List.set_cons_zero, List.set_cons_succ, i64_w, i32_w]
                              rfl
                             refine take_ (i := 3) (N := some 134) (v := ?_) (a' := ?_) #[Y, Y, Y, Y, Z, Y, Y, Y, Y, Z, Z, Z, Z, Y, Y, Y, Y, Z, Z, Z, Z, Y, Y, Y, Y, Z, Z, Z, Z, Z, Z, Z, Z, Z, Z, Z] rfl rfl (take_ofW HT_.out HW_.out (by kernel_rfl)) (fun _ _ _ h => h) (Or.inl ⟨by rfl, ?_⟩) hHeld ?_ ?_
                             rotate_left
                             ·rintro w' ⟨s0, s1, s2, s3⟩
                              go_simp
                              with_reducible rfl
                             rotate_left
                             ·simp only [Act.put, List.setIfInBounds_toArray, List.set_cons_zero, List.set_cons_succ, i64_w, i32_w]
                              rfl
                             refine pure_ (i := 4) (N := some 135) (v := ?_) (a' := ?_) #[Y, Y, Y, Y, Y, Y, Y, Y, Y, Z, Z, Z, Z, Y, Y, Y, Y, Z, Z, Z, Z, Y, Y, Y, Y, Z, Z, Z, Z, Z, Z, Z, Z, Z, Z, Z] rfl rfl (any_of HT_.out (by kernel_rfl)) (fun _ _ _ h => h) (Or.inl ⟨by rfl, ?_⟩) ?_ ?_
                             rotate_left
                             ·intro w'
                              go_simp
                              with_reducible rfl
                             rotate_left
                             ·simp only [Act.put, List.setIfInBounds_toArray, List.set_cons_zero, List.set_cons_succ, i64_w, i32_w]
                              rfl
                             refine take_ (i := 9) (N := some 140) (v := ?_) (a' := ?_) #[Y, Y, Y, Y, Y, Y, Y, Y, Y, Y, Z, Z, Z, Y, Y, Y, Y, Z, Z, Z, Z, Y, Y, Y, Y, Z, Z, Z, Z, Z, Z, Z, Z, Z, Z, Z] rfl rfl (take_ofW HT_.out HW_.out (by kernel_rfl)) (fun _ _ _ h => h) (Or.inl ⟨by rfl, ?_⟩) hHeld ?_ ?_
                             rotate_left
                             ·rintro w' ⟨s0, s1, s2, s3⟩
                              go_simp
                              with_reducible rfl
                             rotate_left
                             ·simp only [Act.put, List.setIfInBounds_toArray, List.set_cons_zero, List.set_cons_succ, i64_w, i32_w]
                              rfl
                             refine pure_ (i := 10) (N := some 141) (v := ?_) (a' := ?_) #[Y, Y, Y, Y, Y, Y, Y, Y, Y, Y, Y, Z, Z, Y, Y, Y, Y, Z, Z, Z, Z, Y, Y, Y, Y, Z, Z, Z, Z, Z, Z, Z, Z, Z, Z, Z] rfl rfl (any_of HT_.out (by kernel_rfl)) (fun _ _ _ h => h) (Or.inl ⟨by rfl, ?_⟩) ?_ ?_
                             rotate_left
                             ·intro w'
                              go_simp
                              with_reducible rfl
                             rotate_left
                             ·simp only [Act.put, List.setIfInBounds_toArray, List.set_cons_zero, List.set_cons_succ, i64_w, i32_w]
                              rfl
                             refine pure_ (i := 11) (N := some 142) (v := ?_) (a' := ?_) #[Y, Y, Y, Y, Y, Y, Y, Y, Y, Y, Y, Y, Z, Y, Y, Y, Y, Z, Z, Z, Z, Y, Y, Y, Y, Z, Z, Z, Z, Z, Z, Z, Z, Z, Z, Z] rfl rfl (any_of HT_.out (by kernel_rfl)) (fun _ _ _ h => h) (Or.inl ⟨by rfl, ?_⟩) ?_ ?_
                             rotate_left
                             ·intro w'
                              go_simp
                              with_reducible rfl
                             rotate_left
                             ·simp only [Act.put, List.setIfInBounds_toArray, List.set_cons_zero, List.set_cons_succ, i64_w, i32_w]
                              rfl
                             refine pure_ (i := 12) (N := some 143) (v := ?_) (a' := ?_) #[Y, Y, Y, Y, Y, Y, Y, Y, Y, Y, Y, Y, Y, Y, Y, Y, Y, Z, Z, Z, Z, Y, Y, Y, Y, Z, Z, Z, Z, Z, Z, Z, Z, Z, Z, Z] rfl rfl (any_of HT_.out (by kernel_rfl)) (fun _ _ _ h => h) (Or.inl ⟨by rfl, ?_⟩) ?_ ?_
                             rotate_left
                             ·intro w'
                              go_simp
                              with_reducible rfl
                             rotate_left
                             ·simp only [Act.put, List.setIfInBounds_toArray, List.set_cons_zero, List.set_cons_succ, i64_w, i32_w]
                              rfl
                             refine take_ (i := 17) (N := some 148) (v := ?_) (a' := ?_) #[Y, Y, Y, Y, Y, Y, Y, Y, Y, Y, Y, Y, Y, Y, Y, Y, Y, Y, Z, Z, Z, Y, Y, Y, Y, Z, Z, Z, Z, Z, Z, Z, Z, Z, Z, Z] rfl rfl (take_ofW HT_.out HW_.out (by kernel_rfl)) (fun _ _ _ h => h) (Or.inl ⟨by rfl, ?_⟩) hHeld ?_ ?_
                             rotate_left
                             ·rintro w' ⟨s0, s1, s2, s3⟩
                              go_simp
                              with_reducible rfl
                             rotate_left
                             ·simp only [Act.put, List.setIfInBounds_toArray, List.set_cons_zero, List.set_cons_succ, i64_w, i32_w]
                              rfl
                             refine pure_ (i := 18) (N := some 149) (v := ?_) (a' := ?_) #[Y, Y, Y, Y, Y, Y, Y, Y, Y, Y, Y, Y, Y, Y, Y, Y, Y, Y, Y, Z, Z, Y, Y, Y, Y, Z, Z, Z, Z, Z, Z, Z, Z, Z, Z, Z] rfl rfl (any_of HT_.out (by kernel_rfl)) (fun _ _ _ h => h) (Or.inl ⟨by rfl, ?_⟩) ?_ ?_
                             rotate_left
                             ·intro w'
                              go_simp
                              with_reducible rfl
                             rotate_left
                             ·simp only [Act.put, List.setIfInBounds_toArray, List.set_cons_zero, List.set_cons_succ, i64_w, i32_w]
                              rfl
                             refine pure_ (i := 19) (N := some 150) (v := ?_) (a' := ?_) #[Y, Y, Y, Y, Y, Y, Y, Y, Y, Y, Y, Y, Y, Y, Y, Y, Y, Y, Y, Y, Z, Y, Y, Y, Y, Z, Z, Z, Z, Z, Z, Z, Z, Z, Z, Z] rfl rfl (any_of HT_.out (by kernel_rfl)) (fun _ _ _ h => h) (Or.inl ⟨by rfl, ?_⟩) ?_ ?_
                             rotate_left
                             ·intro w'
                              go_simp
                              with_reducible rfl
                             rotate_left
                             ·simp only [Act.put, List.setIfInBounds_toArray, List.set_cons_zero, List.set_cons_succ, i64_w, i32_w]
                              rfl
                             refine pure_ (i := 20) (N := some 151) (v := ?_) (a' := ?_) #[Y, Y, Y, Y, Y, Y, Y, Y, Y, Y, Y, Y, Y, Y, Y, Y, Y, Y, Y, Y, Y, Y, Y, Y, Y, Z, Z, Z, Z, Z, Z, Z, Z, Z, Z, Z] rfl rfl (any_of HT_.out (by kernel_rfl)) (fun _ _ _ h => h) (Or.inl ⟨by rfl, ?_⟩) ?_ ?_
                             rotate_left
                             ·intro w'
                              go_simp
                              with_reducible rfl
                             rotate_left
                             ·simp only [Act.put, List.setIfInBounds_toArray, List.set_cons_zero, List.set_cons_succ, i64_w, i32_w]
                              rfl
                             refine take_ (i := 25) (N := some 156) (v := ?_) (a' := ?_) #[Y, Y, Y, Y, Y, Y, Y, Y, Y, Y, Y, Y, Y, Y, Y, Y, Y, Y, Y, Y, Y, Y, Y, Y, Y, Y, Z, Z, Z, Z, Z, Z, Z, Z, Z, Z] rfl rfl (take_ofW HT_.out HW_.out (by kernel_rfl)) (fun _ _ _ h => h) (Or.inl ⟨by rfl, ?_⟩) hHeld ?_ ?_
                             rotate_left
                             ·rintro w' ⟨s0, s1, s2, s3⟩
                              go_simp
                              with_reducible rfl
                             rotate_left
                             ·simp only [Act.put, List.setIfInBounds_toArray, List.set_cons_zero, List.set_cons_succ, i64_w, i32_w]
                              rfl
                             refine pure_ (i := 26) (N := some 157) (v := ?_) (a' := ?_) #[Y, Y, Y, Y, Y, Y, Y, Y, Y, Y, Y, Y, Y, Y, Y, Y, Y, Y, Y, Y, Y, Y, Y, Y, Y, Y, Y, Z, Z, Z, Z, Z, Z, Z, Z, Z] rfl rfl (any_of HT_.out (by kernel_rfl)) (fun _ _ _ h => h) (Or.inl ⟨by rfl, ?_⟩) ?_ ?_
                             rotate_left
                             ·intro w'
                              go_simp
                              with_reducible rfl
                             rotate_left
                             ·simp only [Act.put, List.setIfInBounds_toArray, List.set_cons_zero, List.set_cons_succ, i64_w, i32_w]
                              rfl
                             refine pure_ (i := 27) (N := some 158) (v := ?_) (a' := ?_) #[Y, Y, Y, Y, Y, Y, Y, Y, Y, Y, Y, Y, Y, Y, Y, Y, Y, Y, Y, Y, Y, Y, Y, Y, Y, Y, Y, Y, Z, Z, Z, Z, Z, Z, Z, Z] rfl rfl (any_of HT_.out (by kernel_rfl)) (fun _ _ _ h => h) (Or.inl ⟨by rfl, ?_⟩) ?_ ?_
                             rotate_left
                             ·intro w'
                              go_simp
                              with_reducible rfl
                             rotate_left
                             ·simp only [Act.put, List.setIfInBounds_toArray, List.set_cons_zero, List.set_cons_succ, i64_w, i32_w]
                              rfl
                             refine pure_ (i := 28) (N := some 159) (v := ?_) (a' := ?_) #[Y, Y, Y, Y, Y, Y, Y, Y, Y, Y, Y, Y, Y, Y, Y, Y, Y, Y, Y, Y, Y, Y, Y, Y, Y, Y, Y, Y, Y, Z, Z, Z, Z, Z, Z, Z] rfl rfl (any_of HT_.out (by kernel_rfl)) (fun _ _ _ h => h) (Or.inl ⟨by rfl, ?_⟩) ?_ ?_
                             rotate_left
                             ·intro w'
                              go_simp
                              with_reducible rfl
                             rotate_left
                             ·simp only [Act.put, List.setIfInBounds_toArray, List.set_cons_zero, List.set_cons_succ, i64_w, i32_w]
                              rfl
                             refine join_ (σ := Nat) 2 #[Y, Y, Y, Y, Y, Y, Y, Y, Y, Y, Y, Y, Y, Y, Y, Y, Y, Y, Y, Y, Y, Y, Y, Y, Y, Y, Y, Y, Y, Y, Y, Y, Y, Y, Z, Z] (fun s_ => [(160, .tuple #[.agg #[.int .i64 t332, .int .i64 t333, .int .i64 t334, .int .i64 t335, .int .i64 t336, .int .i32 t337, .string t338], .bool true]), (16, .pointer (some ⟨s_, 0, none⟩)), (130, .tuple #[.agg #[.int .i64 t332, .int .i64 t333, .int .i64 t334, .int .i64 t335, .int .i64 t336, .int .i32 t337, .string t338], .bool true]), (161, .agg #[.int .i64 t332, .int .i64 t333, .int .i64 t334, .int .i64 t335, .int .i64 t336, .int .i32 t337, .string t338]), (162, .bool true)]) (fun s_ w' => (w'.cell? (ad328.add (t317).toNat) = some (.int .u8 (rd y286 t317)) ∧ w'.cell? (ad328.add ((ji110)).toNat) = some (.int .u8 (rd y286 (ji110))) ∧ w'.cell? (ad328.add ((ji113)).toNat) = some (.int .u8 (rd y286 (ji113))) ∧ w'.cell? (ad328.add ((ji116)).toNat) = some (.int .u8 (rd y286 (ji116)))) ∧ (w'.heap[s_]? = some (.cells #[.int .i64 0, .int .i64 0, .int .i64 0, .int .i64 0, .int .i64 0, .int .i32 0, .string (⟨#[]⟩ : ByteArray)] 23 (0, 0))) ∧ (w.heap.size ≤ s_) ∧ (w.heap.size ≤ s_) ∧ (Below w.heap.size w w')) ?_ ?_
                             rotate_left
                             ·intro hCont
                              refine two_ (i := 29) (j := 33) (Ni := some 160) (Nj := some 16) #[Y, Y, Y, Y, Y, Y, Y, Y, Y, Y, Y, Y, Y, Y, Y, Y, Y, Y, Y, Y, Y, Y, Y, Y, Y, Y, Y, Y, Y, Y, Z, Z, Z, Z, Z, Z] #[Y, Y, Y, Y, Y, Y, Y, Y, Y, Y, Y, Y, Y, Y, Y, Y, Y, Y, Y, Y, Y, Y, Y, Y, Y, Y, Y, Y, Y, Z, Z, Z, Z, Y, Z, Z] rfl rfl rfl rfl (two_of HT_.out (by kernel_rfl)) (by decide) (by decide) (fun K hK => ?_) (fun K hK => ?_)
                              ·skip
                               refine goes_ Try.func10 (by kernel_rfl) rfl #[.int .u32 (Go.bits .or .u32 (Go.bits .or .u32 (Go.bits .or .u32 ((rd y286 t317) % 4294967296) ((((rd y286 (ji110)) % 4294967296) * 256) % 4294967296)) ((((rd y286 (ji113)) % 4294967296) * 65536) % 4294967296)) ((((rd y286 (ji116)) % 4294967296) * 16777216) % 4294967296))] (by rfl) rfl rfl (by (try simp only [List.map_toArray, List.map_cons, List.map_nil]); rfl) ?_
                               with_reducible refine (code_Decode.calls kj93 (Go.bits .or .u32 (Go.bits .or .u32 (Go.bits .or .u32 ((rd y286 t317) % 4294967296) ((((rd y286 (ji110)) % 4294967296) * 256) % 4294967296)) ((((rd y286 (ji113)) % 4294967296) * 65536) % 4294967296)) ((((rd y286 (ji116)) % 4294967296) * 16777216) % 4294967296)) t332 t333 t334 t335 t336 t337 t338 true _ A119.out).mono ?_
                               rintro e w122 ⟨rfl, hb⟩
                               refine ⟨_, rfl, ?_⟩
                               have n0_ := Aside0.mk (below_step (by repeat ((with_reducible exact HB.out))) hb)
                               clear HB
                               have HB := n0_
                               clear n0_
                               (try clear hb)
                               refine hK.out _ _ ⟨((HB.out.cell (World.block_lt_of_cell? w _ hw328_0)).trans hw328_0), ((HB.out.cell (World.block_lt_of_cell? w _ hw329_0)).trans hw329_0), ((HB.out.cell (World.block_lt_of_cell? w _ hw330_0)).trans hw330_0), ((HB.out.cell (World.block_lt_of_cell? w _ hw331_0)).trans hw331_0)⟩ (fun hHeld => ?_)
                               clear hK K
                               refine norm_ (a' := ?_) ?_ ?_
                               rotate_left
                               ·show Act.put _ (some 160) _ = _
                                simp only [Act.put, List.setIfInBounds_toArray, List.set_cons_zero, List.set_cons_succ, i64_w, i32_w]
                                rfl
                               refine pure_ (i := 30) (N := some 130) (v := ?_) (a' := ?_) #[Y, Y, Y, Y, Y, Y, Y, Y, Y, Y, Y, Y, Y, Y, Y, Y, Y, Y, Y, Y, Y, Y, Y, Y, Y, Y, Y, Y, Y, Y, Y, Z, Z, Z, Z, Z] rfl rfl (any_of HT_.out (by kernel_rfl)) (fun _ _ _ h => h) (Or.inl ⟨by rfl, ?_⟩) ?_ ?_
                               rotate_left
                               ·intro w'
                                go_simp
                                with_reducible rfl
                               rotate_left
                               ·simp only [Act.put, List.setIfInBounds_toArray, List.set_cons_zero, List.set_cons_succ, i64_w, i32_w]
                                rfl
                               refine pure_ (i := 31) (N := some 161) (v := ?_) (a' := ?_) #[Y, Y, Y, Y, Y, Y, Y, Y, Y, Y, Y, Y, Y, Y, Y, Y, Y, Y, Y, Y, Y, Y, Y, Y, Y, Y, Y, Y, Y, Y, Y, Y, Z, Z, Z, Z] rfl rfl (any_of HT_.out (by kernel_rfl)) (fun _ _ _ h => h) (Or.inl ⟨by rfl, ?_⟩) ?_ ?_
                               rotate_left
                               ·intro w'
                                go_simp
                                with_reducible rfl
                               rotate_left
                               ·simp only [Act.put, List.setIfInBounds_toArray, List.set_cons_zero, List.set_cons_succ, i64_w, i32_w]
                                rfl
                               refine pure_ (i := 32) (N := some 162) (v := ?_) (a' := ?_) #[Y, Y, Y, Y, Y, Y, Y, Y, Y, Y, Y, Y, Y, Y, Y, Y, Y, Y, Y, Y, Y, Y, Y, Y, Y, Y, Y, Y, Y, Y, Y, Y, Y, Z, Z, Z] rfl rfl (any_of HT_.out (by kernel_rfl)) (fun _ _ _ h => h) (Or.inl ⟨by rfl, ?_⟩) ?_ ?_
                               rotate_left
                               ·intro w'
                                go_simp
                                with_reducible rfl
                               rotate_left
                               ·simp only [Act.put, List.setIfInBounds_toArray, List.set_cons_zero, List.set_cons_succ, i64_w, i32_w]
                                rfl
                               refine one_ (i := 33) (N := some 16) #[Y, Y, Y, Y, Y, Y, Y, Y, Y, Y, Y, Y, Y, Y, Y, Y, Y, Y, Y, Y, Y, Y, Y, Y, Y, Y, Y, Y, Y, Y, Y, Y, Y, Y, Z, Z] rfl rfl (one_of HT_.out (by kernel_rfl)) (by decide) (fun K hK => ?_)
                               refine box_step ?hg (N := 16) ?hd (cs := #[.int .i64 0, .int .i64 0, .int .i64 0, .int .i64 0, .int .i64 0, .int .i32 0, .string (⟨#[]⟩ : ByteArray)]) (t := 23) ?hr ?_; (case hd => rfl); (case hg => rfl); (case hr => (go_simp; done))
                               intro gb340 hg w123 hbox hb
                               have n0_ := Aside0.mk (below_step (by repeat ((with_reducible exact HB.out))) hb)
                               have n1_ := Aside0.mk (hbox)
                               have n2_ := Aside0.mk ((by rw [hg]; exact (below_size (by repeat ((with_reducible exact HB.out)))) : w.heap.size ≤ gb340))
                               have n3_ := Aside0.mk ((by rw [hg]; exact (below_size (by repeat ((with_reducible exact HB.out)))) : w.heap.size ≤ gb340))
                               clear HB
                               have HB := n0_
                               have BK340 := n1_
                               have GW340 := n2_
                               have GE340 := n3_
                               clear n0_ n1_ n2_ n3_ hb hbox hg
                               refine hK.out _ _ ⟨((HB.out.cell (World.block_lt_of_cell? w _ hw328_0)).trans hw328_0), ((HB.out.cell (World.block_lt_of_cell? w _ hw329_0)).trans hw329_0), ((HB.out.cell (World.block_lt_of_cell? w _ hw330_0)).trans hw330_0), ((HB.out.cell (World.block_lt_of_cell? w _ hw331_0)).trans hw331_0)⟩ (fun hHeld => ?_)
                               clear hK K
                               refine norm_ (a' := ?_) ?_ ?_
                               rotate_left
                               ·show Act.put _ (some 16) _ = _
                                simp only [Act.put, List.setIfInBounds_toArray, List.set_cons_zero, List.set_cons_succ, i64_w, i32_w]
                                rfl
                               exact norm_ (by simp only [putAll, Act.put, List.setIfInBounds_toArray, List.set_cons_zero, List.set_cons_succ]) (hCont (gb340) _ ⟨hHeld, (by (with_reducible repeat (fail)); exact BK340.out), GW340.out, GE340.out, (by repeat ((with_reducible exact HB.out)))⟩)
                              ·skip
                               refine box_step ?hg (N := 16) ?hd (cs := #[.int .i64 0, .int .i64 0, .int .i64 0, .int .i64 0, .int .i64 0, .int .i32 0, .string (⟨#[]⟩ : ByteArray)]) (t := 23) ?hr ?_; (case hd => rfl); (case hg => rfl); (case hr => (go_simp; done))
                               intro gb340 hg w122 hbox hb
                               have n0_ := Aside0.mk (below_step (by repeat ((with_reducible exact HB.out))) hb)
                               have n1_ := Aside0.mk (hbox)
                               have n2_ := Aside0.mk ((by rw [hg]; exact (below_size (by repeat ((with_reducible exact HB.out)))) : w.heap.size ≤ gb340))
                               have n3_ := Aside0.mk ((by rw [hg]; exact (below_size (by repeat ((with_reducible exact HB.out)))) : w.heap.size ≤ gb340))
                               clear HB
                               have HB := n0_
                               have BK340 := n1_
                               have GW340 := n2_
                               have GE340 := n3_
                               clear n0_ n1_ n2_ n3_ hb hbox hg
                               refine hK.out _ _ ⟨((HB.out.cell (World.block_lt_of_cell? w _ hw328_0)).trans hw328_0), ((HB.out.cell (World.block_lt_of_cell? w _ hw329_0)).trans hw329_0), ((HB.out.cell (World.block_lt_of_cell? w _ hw330_0)).trans hw330_0), ((HB.out.cell (World.block_lt_of_cell? w _ hw331_0)).trans hw331_0)⟩ (fun hHeld => ?_)
                               clear hK K
                               refine norm_ (a' := ?_) ?_ ?_
                               rotate_left
                               ·show Act.put _ (some 16) _ = _
                                simp only [Act.put, List.setIfInBounds_toArray, List.set_cons_zero, List.set_cons_succ, i64_w, i32_w]
                                rfl
                               refine one_ (i := 29) (N := some 160) #[Y, Y, Y, Y, Y, Y, Y, Y, Y, Y, Y, Y, Y, Y, Y, Y, Y, Y, Y, Y, Y, Y, Y, Y, Y, Y, Y, Y, Y, Y, Z, Z, Z, Y, Z, Z] rfl rfl (one_of HT_.out (by kernel_rfl)) (by decide) (fun K hK => ?_)
                               refine goes_ Try.func10 (by kernel_rfl) rfl #[.int .u32 (Go.bits .or .u32 (Go.bits .or .u32 (Go.bits .or .u32 ((rd y286 t317) % 4294967296) ((((rd y286 (ji110)) % 4294967296) * 256) % 4294967296)) ((((rd y286 (ji113)) % 4294967296) * 65536) % 4294967296)) ((((rd y286 (ji116)) % 4294967296) * 16777216) % 4294967296))] (by rfl) rfl rfl (by (try simp only [List.map_toArray, List.map_cons, List.map_nil]); rfl) ?_
                               with_reducible refine (code_Decode.calls kj93 (Go.bits .or .u32 (Go.bits .or .u32 (Go.bits .or .u32 ((rd y286 t317) % 4294967296) ((((rd y286 (ji110)) % 4294967296) * 256) % 4294967296)) ((((rd y286 (ji113)) % 4294967296) * 65536) % 4294967296)) ((((rd y286 (ji116)) % 4294967296) * 16777216) % 4294967296)) t332 t333 t334 t335 t336 t337 t338 true _ A119.out).mono ?_
                               rintro e w123 ⟨rfl, hb⟩
                               refine ⟨_, rfl, ?_⟩
                               have n0_ := Aside0.mk (blk_below (g := gb340) (o := .cells #[.int .i64 0, .int .i64 0, .int .i64 0, .int .i64 0, .int .i64 0, .int .i32 0, .string (⟨#[]⟩ : ByteArray)] 23 (0, 0)) (by (with_reducible repeat (fail)); exact BK340.out) hb)
                               have n1_ := Aside0.mk (below_step (by repeat ((with_reducible exact HB.out))) hb)
                               clear BK340 HB
                               have BK340 := n0_
                               have HB := n1_
                               clear n0_ n1_
                               (try clear hb)
                               refine hK.out _ _ ⟨((HB.out.cell (World.block_lt_of_cell? w _ hw328_0)).trans hw328_0), ((HB.out.cell (World.block_lt_of_cell? w _ hw329_0)).trans hw329_0), ((HB.out.cell (World.block_lt_of_cell? w _ hw330_0)).trans hw330_0), ((HB.out.cell (World.block_lt_of_cell? w _ hw331_0)).trans hw331_0)⟩ (fun hHeld => ?_)
                               clear hK K
                               refine norm_ (a' := ?_) ?_ ?_
                               rotate_left
                               ·show Act.put _ (some 160) _ = _
                                simp only [Act.put, List.setIfInBounds_toArray, List.set_cons_zero, List.set_cons_succ, i64_w, i32_w]
                                rfl
                               refine pure_ (i := 30) (N := some 130) (v := ?_) (a' := ?_) #[Y, Y, Y, Y, Y, Y, Y, Y, Y, Y, Y, Y, Y, Y, Y, Y, Y, Y, Y, Y, Y, Y, Y, Y, Y, Y, Y, Y, Y, Y, Y, Z, Z, Y, Z, Z] rfl rfl (any_of HT_.out (by kernel_rfl)) (fun _ _ _ h => h) (Or.inl ⟨by rfl, ?_⟩) ?_ ?_
                               rotate_left
                               ·intro w'
                                go_simp
                                with_reducible rfl
                               rotate_left
                               ·simp only [Act.put, List.setIfInBounds_toArray, List.set_cons_zero, List.set_cons_succ, i64_w, i32_w]
                                rfl
                               refine pure_ (i := 31) (N := some 161) (v := ?_) (a' := ?_) #[Y, Y, Y, Y, Y, Y, Y, Y, Y, Y, Y, Y, Y, Y, Y, Y, Y, Y, Y, Y, Y, Y, Y, Y, Y, Y, Y, Y, Y, Y, Y, Y, Z, Y, Z, Z] rfl rfl (any_of HT_.out (by kernel_rfl)) (fun _ _ _ h => h) (Or.inl ⟨by rfl, ?_⟩) ?_ ?_
                               rotate_left
                               ·intro w'
                                go_simp
                                with_reducible rfl
                               rotate_left
                               ·simp only [Act.put, List.setIfInBounds_toArray, List.set_cons_zero, List.set_cons_succ, i64_w, i32_w]
                                rfl
                               refine pure_ (i := 32) (N := some 162) (v := ?_) (a' := ?_) #[Y, Y, Y, Y, Y, Y, Y, Y, Y, Y, Y, Y, Y, Y, Y, Y, Y, Y, Y, Y, Y, Y, Y, Y, Y, Y, Y, Y, Y, Y, Y, Y, Y, Y, Z, Z] rfl rfl (any_of HT_.out (by kernel_rfl)) (fun _ _ _ h => h) (Or.inl ⟨by rfl, ?_⟩) ?_ ?_
                               rotate_left
                               ·intro w'
                                go_simp
                                with_reducible rfl
                               rotate_left
                               ·simp only [Act.put, List.setIfInBounds_toArray, List.set_cons_zero, List.set_cons_succ, i64_w, i32_w]
                                rfl
                               exact norm_ (by simp only [putAll, Act.put, List.setIfInBounds_toArray, List.set_cons_zero, List.set_cons_succ]) (hCont (gb340) _ ⟨hHeld, (by (with_reducible repeat (fail)); exact BK340.out), GW340.out, GE340.out, (by repeat ((with_reducible exact HB.out)))⟩)
                             rintro gb340 w124 ⟨hS_, h0_, h1_, h2_, h3_⟩
                             have n0_ : Aside0 (w124.heap[gb340]? = some (.cells #[.int .i64 0, .int .i64 0, .int .i64 0, .int .i64 0, .int .i64 0, .int .i32 0, .string (⟨#[]⟩ : ByteArray)] 23 (0, 0))) := ⟨h0_⟩
                             have n1_ : Aside0 (w.heap.size ≤ gb340) := ⟨h1_⟩
                             have n2_ : Aside0 (w.heap.size ≤ gb340) := ⟨h2_⟩
                             have n3_ : Aside0 (Below w.heap.size w w124) := ⟨h3_⟩
                             clear HB h0_ h1_ h2_ h3_
                             have BK340 := n0_
                             have GW340 := n1_
                             have GE340 := n2_
                             have HB := n3_
                             clear n0_ n1_ n2_ n3_
                             have hHeld : w124.cell? (ad328.add (t317).toNat) = some (.int .u8 (rd y286 t317)) ∧ w124.cell? (ad328.add ((ji110)).toNat) = some (.int .u8 (rd y286 (ji110))) ∧ w124.cell? (ad328.add ((ji113)).toNat) = some (.int .u8 (rd y286 (ji113))) ∧ w124.cell? (ad328.add ((ji116)).toNat) = some (.int .u8 (rd y286 (ji116))) := hS_
                             refine norm_ (a' := ?_) ?_ ?_
                             rotate_left
                             ·simp only [putAll, Act.put, List.setIfInBounds_toArray, List.set_cons_zero, List.set_cons_succ]
                              rfl
                             refine one_ (i := 34) (N := none) #[Y, Y, Y, Y, Y, Y, Y, Y, Y, Y, Y, Y, Y, Y, Y, Y, Y, Y, Y, Y, Y, Y, Y, Y, Y, Y, Y, Y, Y, Y, Y, Y, Y, Y, Y, Z] rfl rfl (one_of HT_.out (by kernel_rfl)) (by decide) (fun K hK => ?_)
                             have hs125 : w124.cell? ⟨gb340, 0, none⟩ = some (.int .i64 0) := (blk_cell BK340.out 0).trans rfl
                             have hfs125 := blk_frozen BK340.out 0
                             have hs126 : w124.cell? ⟨gb340, 1, none⟩ = some (.int .i64 0) := (blk_cell BK340.out 1).trans rfl
                             have hfs126 := blk_frozen BK340.out 1
                             have hs127 : w124.cell? ⟨gb340, 2, none⟩ = some (.int .i64 0) := (blk_cell BK340.out 2).trans rfl
                             have hfs127 := blk_frozen BK340.out 2
                             have hs128 : w124.cell? ⟨gb340, 3, none⟩ = some (.int .i64 0) := (blk_cell BK340.out 3).trans rfl
                             have hfs128 := blk_frozen BK340.out 3
                             have hs129 : w124.cell? ⟨gb340, 4, none⟩ = some (.int .i64 0) := (blk_cell BK340.out 4).trans rfl
                             have hfs129 := blk_frozen BK340.out 4
                             have hs130 : w124.cell? ⟨gb340, 5, none⟩ = some (.int .i32 0) := (blk_cell BK340.out 5).trans rfl
                             have hfs130 := blk_frozen BK340.out 5
                             have hs131 : w124.cell? ⟨gb340, 6, none⟩ = some (.string (⟨#[]⟩ : ByteArray)) := (blk_cell BK340.out 6).trans rfl
                             have hfs131 := blk_frozen BK340.out 6
                             refine skip_ (w1 := ?_) (by rfl) rfl ?_ ?_
                             rotate_left
                             ·go_simp
                              rfl
                             refine hK.out _ _ ⟨((cell_far (p := ⟨gb340, _, none⟩) (xfar hw328_0 GW340.out) _).trans (((cell_far (p := ⟨gb340, _, none⟩) (xfar hw328_0 GW340.out) _).trans (((cell_far (p := ⟨gb340, _, none⟩) (xfar hw328_0 GW340.out) _).trans (((cell_far (p := ⟨gb340, _, none⟩) (xfar hw328_0 GW340.out) _).trans (((cell_far (p := ⟨gb340, _, none⟩) (xfar hw328_0 GW340.out) _).trans (((cell_far (p := ⟨gb340, _, none⟩) (xfar hw328_0 GW340.out) _).trans (((cell_far (p := ⟨gb340, _, none⟩) (xfar hw328_0 GW340.out) _).trans (hHeld.1)))))))))))))), ((cell_far (p := ⟨gb340, _, none⟩) (xfar hw329_0 GW340.out) _).trans (((cell_far (p := ⟨gb340, _, none⟩) (xfar hw329_0 GW340.out) _).trans (((cell_far (p := ⟨gb340, _, none⟩) (xfar hw329_0 GW340.out) _).trans (((cell_far (p := ⟨gb340, _, none⟩) (xfar hw329_0 GW340.out) _).trans (((cell_far (p := ⟨gb340, _, none⟩) (xfar hw329_0 GW340.out) _).trans (((cell_far (p := ⟨gb340, _, none⟩) (xfar hw329_0 GW340.out) _).trans (((cell_far (p := ⟨gb340, _, none⟩) (xfar hw329_0 GW340.out) _).trans (hHeld.2.1)))))))))))))), ((cell_far (p := ⟨gb340, _, none⟩) (xfar hw330_0 GW340.out) _).trans (((cell_far (p := ⟨gb340, _, none⟩) (xfar hw330_0 GW340.out) _).trans (((cell_far (p := ⟨gb340, _, none⟩) (xfar hw330_0 GW340.out) _).trans (((cell_far (p := ⟨gb340, _, none⟩) (xfar hw330_0 GW340.out) _).trans (((cell_far (p := ⟨gb340, _, none⟩) (xfar hw330_0 GW340.out) _).trans (((cell_far (p := ⟨gb340, _, none⟩) (xfar hw330_0 GW340.out) _).trans (((cell_far (p := ⟨gb340, _, none⟩) (xfar hw330_0 GW340.out) _).trans (hHeld.2.2.1)))))))))))))), ((cell_far (p := ⟨gb340, _, none⟩) (xfar hw331_0 GW340.out) _).trans (((cell_far (p := ⟨gb340, _, none⟩) (xfar hw331_0 GW340.out) _).trans (((cell_far (p := ⟨gb340, _, none⟩) (xfar hw331_0 GW340.out) _).trans (((cell_far (p := ⟨gb340, _, none⟩) (xfar hw331_0 GW340.out) _).trans (((cell_far (p := ⟨gb340, _, none⟩) (xfar hw331_0 GW340.out) _).trans (((cell_far (p := ⟨gb340, _, none⟩) (xfar hw331_0 GW340.out) _).trans (((cell_far (p := ⟨gb340, _, none⟩) (xfar hw331_0 GW340.out) _).trans (hHeld.2.2.2))))))))))))))⟩ (fun hHeld => ?_)
                             clear hK K
                             refine pure_ (i := 35) (N := some 17) (v := ?_) (a' := ?_) #[Y, Y, Y, Y, Y, Y, Y, Y, Y, Y, Y, Y, Y, Y, Y, Y, Y, Y, Y, Y, Y, Y, Y, Y, Y, Y, Y, Y, Y, Y, Y, Y, Y, Y, Y, Y] rfl rfl (any_of HT_.out (by kernel_rfl)) (fun _ _ _ h => h) (Or.inl ⟨by rfl, ?_⟩) ?_ ?_
                             rotate_left
                             ·intro w'
                              go_simp
                              with_reducible rfl
                             rotate_left
                             ·simp only [Act.put, List.setIfInBounds_toArray, List.set_cons_zero, List.set_cons_succ, i64_w, i32_w]
                              rfl
                             refine done_ (done_of HT_.out (by kernel_rfl)) ?_
                             try go_wp2
                             go_ret
                             exact ⟨by rfl, by repeat ((with_reducible first | exact HB.out | refine below_set ?_ GE340.out))⟩
                            ·replace c120 := Bool.eq_false_iff.mpr c120
                             subst c120
                             have H1 : ((brazierlaw19_lives.f kj93).bind fun t341 => (some t341)) = some r := by rw [if_neg (show ¬ (false = true) by decide)] at H; exact H
                             clear H
                             have H := H1
                             clear H1
                             replace H := Option.bind_eq_some_iff.mp H
                             obtain ⟨t341, A1320, H⟩ := H
                             replace H : (some t341) = some r := H
                             have A132 := Aside0.mk A1320
                             clear A1320
                             obtain rfl := Option.some.inj H
                             try go_wp2
                             have n0_ := Aside0.mk (below_drew1 HB.out)
                             clear HB
                             have HB := n0_
                             clear n0_
                             have p328 : 0 ≤ (t317 : Int) := of_decide_eq_true (by (with_reducible assumption))
                             have q328 : t317 < (y286.length : Int) := of_decide_eq_true (by (with_reducible assumption))
                             obtain ⟨ad328, e328, hx328_0⟩ := Kd.at_int HR289.out t317 p328 q328
                             have hw328_0 := hx328_0
                             cases e328
                             replace hx328_0 := (HB.out.cell (World.block_lt_of_cell? w _ hx328_0)).trans hx328_0
                             replace p328 := eq_true p328
                             replace q328 := eq_true q328
                             have p329 : 0 ≤ ((ji110) : Int) := of_decide_eq_true (by (with_reducible assumption))
                             have q329 : (ji110) < (y286.length : Int) := of_decide_eq_true (by (with_reducible assumption))
                             obtain ⟨ad329, e329, hx329_0⟩ := Kd.at_int HR289.out (ji110) p329 q329
                             have hw329_0 := hx329_0
                             obtain rfl : ad328 = ad329 := (by injection e329)
                             replace hx329_0 := (HB.out.cell (World.block_lt_of_cell? w _ hx329_0)).trans hx329_0
                             replace p329 := eq_true p329
                             replace q329 := eq_true q329
                             have p330 : 0 ≤ ((ji113) : Int) := of_decide_eq_true (by (with_reducible assumption))
                             have q330 : (ji113) < (y286.length : Int) := of_decide_eq_true (by (with_reducible assumption))
                             obtain ⟨ad330, e330, hx330_0⟩ := Kd.at_int HR289.out (ji113) p330 q330
                             have hw330_0 := hx330_0
                             obtain rfl : ad328 = ad330 := (by injection e330)
                             replace hx330_0 := (HB.out.cell (World.block_lt_of_cell? w _ hx330_0)).trans hx330_0
                             replace p330 := eq_true p330
                             replace q330 := eq_true q330
                             have p331 : 0 ≤ ((ji116) : Int) := of_decide_eq_true (by (with_reducible assumption))
                             have q331 : (ji116) < (y286.length : Int) := of_decide_eq_true (by (with_reducible assumption))
                             obtain ⟨ad331, e331, hx331_0⟩ := Kd.at_int HR289.out (ji116) p331 q331
                             have hw331_0 := hx331_0
                             obtain rfl : ad328 = ad331 := (by injection e331)
                             replace hx331_0 := (HB.out.cell (World.block_lt_of_cell? w _ hx331_0)).trans hx331_0
                             replace p331 := eq_true p331
                             replace q331 := eq_true q331
                             refine start_ (n := 36) (S := fun w' => w'.cell? (ad328.add (t317).toNat) = some (.int .u8 (rd y286 t317)) ∧ w'.cell? (ad328.add ((ji110)).toNat) = some (.int .u8 (rd y286 (ji110))) ∧ w'.cell? (ad328.add ((ji113)).toNat) = some (.int .u8 (rd y286 (ji113))) ∧ w'.cell? (ad328.add ((ji116)).toNat) = some (.int .u8 (rd y286 (ji116)))) (ds := []) #[Z, Z, Z, Z, Z, Z, Z, Z, Z, Z, Z, Z, Z, Z, Z, Z, Z, Z, Z, Z, Z, Z, Z, Z, Z, Z, Z, Z, Z, Z, Z, Z, Z, Z, Z, Z] (by kernel_rfl) rfl rfl ⟨((HB.out.cell (World.block_lt_of_cell? w _ hw328_0)).trans hw328_0), ((HB.out.cell (World.block_lt_of_cell? w _ hw329_0)).trans hw329_0), ((HB.out.cell (World.block_lt_of_cell? w _ hw330_0)).trans hw330_0), ((HB.out.cell (World.block_lt_of_cell? w _ hw331_0)).trans hw331_0)⟩ (fun hHeld => ?_); refine with_tabW brazierlaw19_CodeBytes.tab25 brazierlaw19_CodeBytes.bits25 (fun HT_ HW_ => ?_)
                             generalize wc.drew = w133 at HB hx328_0 hx329_0 hx330_0 hx331_0 hHeld ⊢
                             refine pure_ (i := 0) (N := some 131) (v := ?_) (a' := ?_) #[Y, Z, Z, Z, Z, Z, Z, Z, Z, Z, Z, Z, Z, Z, Z, Z, Z, Z, Z, Z, Z, Z, Z, Z, Z, Z, Z, Z, Z, Z, Z, Z, Z, Z, Z, Z] rfl rfl (any_of HT_.out (by kernel_rfl)) (fun _ _ _ h => h) (Or.inl ⟨by rfl, ?_⟩) ?_ ?_
                             rotate_left
                             ·intro w'
                              go_simp
                              with_reducible rfl
                             rotate_left
                             ·simp only [Act.put, List.setIfInBounds_toArray, List.set_cons_zero, List.set_cons_succ, i64_w, i32_w]
                              rfl
                             refine pure_ (i := 1) (N := some 132) (v := ?_) (a' := ?_) #[Y, Y, Z, Z, Z, Z, Z, Z, Z, Z, Z, Z, Z, Z, Z, Z, Z, Z, Z, Z, Z, Z, Z, Z, Z, Z, Z, Z, Z, Z, Z, Z, Z, Z, Z, Z] rfl rfl (any_of HT_.out (by kernel_rfl)) (fun _ _ _ h => h) (Or.inl ⟨by rfl, ?_⟩) ?_ ?_
                             rotate_left
                             ·intro w'
                              go_simp
                              with_reducible rfl
                             rotate_left
                             ·simp only [Act.put, List.setIfInBounds_toArray, List.set_cons_zero, List.set_cons_succ, i64_w, i32_w]
                              rfl
                             refine pure_ (i := 2) (N := some 133) (v := ?_) (a' := ?_) #[Y, Y, Y, Z, Z, Z, Z, Z, Z, Z, Z, Z, Z, Z, Z, Z, Z, Z, Z, Z, Z, Z, Z, Z, Z, Z, Z, Z, Z, Z, Z, Z, Z, Z, Z, Z] rfl rfl (any_of HT_.out (by kernel_rfl)) (fun _ _ _ h => h) (Or.inl ⟨by rfl, ?_⟩) ?_ ?_
                             rotate_left
                             ·intro w'
                              go_simp
                              with_reducible rfl
                             rotate_left
                             ·simp only [Act.put, List.setIfInBounds_toArray, List.set_cons_zero, List.set_cons_succ, i64_w, i32_w]
                              rfl
                             refine pure_ (i := 5) (N := some 136) (v := ?_) (a' := ?_) #[Y, Y, Y, Z, Z, Y, Z, Z, Z, Z, Z, Z, Z, Z, Z, Z, Z, Z, Z, Z, Z, Z, Z, Z, Z, Z, Z, Z, Z, Z, Z, Z, Z, Z, Z, Z] rfl rfl (any_of HT_.out (by kernel_rfl)) (fun _ _ _ h => h) (Or.inl ⟨by rfl, ?_⟩) ?_ ?_
                             rotate_left
                             ·intro w'
                              go_simp
                              with_reducible rfl
                             rotate_left
                             ·simp only [Act.put, List.setIfInBounds_toArray, List.set_cons_zero, List.set_cons_succ, i64_w, i32_w]
                              rfl
                             refine pure_ (i := 6) (N := some 137) (v := ?_) (a' := ?_) #[Y, Y, Y, Z, Z, Y, Y, Z, Z, Z, Z, Z, Z, Z, Z, Z, Z, Z, Z, Z, Z, Z, Z, Z, Z, Z, Z, Z, Z, Z, Z, Z, Z, Z, Z, Z] rfl rfl (any_of HT_.out (by kernel_rfl)) (fun _ _ _ h => h) (Or.inl ⟨by rfl, ?_⟩) ?_ ?_
                             rotate_left
                             ·intro w'
                              go_simp
                              with_reducible rfl
                             rotate_left
                             ·simp only [Act.put, List.setIfInBounds_toArray, List.set_cons_zero, List.set_cons_succ, i64_w, i32_w]
                              rfl
                             refine pure_ (i := 7) (N := some 138) (v := ?_) (a' := ?_) #[Y, Y, Y, Z, Z, Y, Y, Y, Z, Z, Z, Z, Z, Z, Z, Z, Z, Z, Z, Z, Z, Z, Z, Z, Z, Z, Z, Z, Z, Z, Z, Z, Z, Z, Z, Z] rfl rfl (any_of HT_.out (by kernel_rfl)) (fun _ _ _ h => h) (Or.inl ⟨by rfl, ?_⟩) ?_ ?_
                             rotate_left
                             ·intro w'
                              go_simp
                              with_reducible rfl
                             rotate_left
                             ·simp only [Act.put, List.setIfInBounds_toArray, List.set_cons_zero, List.set_cons_succ, i64_w, i32_w]
                              rfl
                             refine pure_ (i := 8) (N := some 139) (v := ?_) (a' := ?_) #[Y, Y, Y, Z, Z, Y, Y, Y, Y, Z, Z, Z, Z, Z, Z, Z, Z, Z, Z, Z, Z, Z, Z, Z, Z, Z, Z, Z, Z, Z, Z, Z, Z, Z, Z, Z] rfl rfl (any_of HT_.out (by kernel_rfl)) (fun _ _ _ h => h) (Or.inl ⟨by rfl, ?_⟩) ?_ ?_
                             rotate_left
                             ·intro w'
                              go_simp
                              with_reducible rfl
                             rotate_left
                             ·simp only [Act.put, List.setIfInBounds_toArray, List.set_cons_zero, List.set_cons_succ, i64_w, i32_w]
                              rfl
                             refine pure_ (i := 13) (N := some 144) (v := ?_) (a' := ?_) #[Y, Y, Y, Z, Z, Y, Y, Y, Y, Z, Z, Z, Z, Y, Z, Z, Z, Z, Z, Z, Z, Z, Z, Z, Z, Z, Z, Z, Z, Z, Z, Z, Z, Z, Z, Z] rfl rfl (any_of HT_.out (by kernel_rfl)) (fun _ _ _ h => h) (Or.inl ⟨by rfl, ?_⟩) ?_ ?_
                             rotate_left
                             ·intro w'
                              go_simp
                              with_reducible rfl
                             rotate_left
                             ·simp only [Act.put, List.setIfInBounds_toArray, List.set_cons_zero, List.set_cons_succ, i64_w, i32_w]
                              rfl
                             refine pure_ (i := 14) (N := some 145) (v := ?_) (a' := ?_) #[Y, Y, Y, Z, Z, Y, Y, Y, Y, Z, Z, Z, Z, Y, Y, Z, Z, Z, Z, Z, Z, Z, Z, Z, Z, Z, Z, Z, Z, Z, Z, Z, Z, Z, Z, Z] rfl rfl (any_of HT_.out (by kernel_rfl)) (fun _ _ _ h => h) (Or.inl ⟨by rfl, ?_⟩) ?_ ?_
                             rotate_left
                             ·intro w'
                              go_simp
                              with_reducible rfl
                             rotate_left
                             ·simp only [Act.put, List.setIfInBounds_toArray, List.set_cons_zero, List.set_cons_succ, i64_w, i32_w]
                              rfl
                             refine pure_ (i := 15) (N := some 146) (v := ?_) (a' := ?_) #[Y, Y, Y, Z, Z, Y, Y, Y, Y, Z, Z, Z, Z, Y, Y, Y, Z, Z, Z, Z, Z, Z, Z, Z, Z, Z, Z, Z, Z, Z, Z, Z, Z, Z, Z, Z] rfl rfl (any_of HT_.out (by kernel_rfl)) (fun _ _ _ h => h) (Or.inl ⟨by rfl, ?_⟩) ?_ ?_
                             rotate_left
                             ·intro w'
                              go_simp
                              with_reducible rfl
                             rotate_left
                             ·simp only [Act.put, List.setIfInBounds_toArray, List.set_cons_zero, List.set_cons_succ, i64_w, i32_w]
                              rfl
                             refine pure_ (i := 16) (N := some 147) (v := ?_) (a' := ?_) #[Y, Y, Y, Z, Z, Y, Y, Y, Y, Z, Z, Z, Z, Y, Y, Y, Y, Z, Z, Z, Z, Z, Z, Z, Z, Z, Z, Z, Z, Z, Z, Z, Z, Z, Z, Z] rfl rfl (any_of HT_.out (by kernel_rfl)) (fun _ _ _ h => h) (Or.inl ⟨by rfl, ?_⟩) ?_ ?_
                             rotate_left
                             ·intro w'
                              go_simp
                              with_reducible rfl
                             rotate_left
                             ·simp only [Act.put, List.setIfInBounds_toArray, List.set_cons_zero, List.set_cons_succ, i64_w, i32_w]
                              rfl
                             refine pure_ (i := 21) (N := some 152) (v := ?_) (a' := ?_) #[Y, Y, Y, Z, Z, Y, Y, Y, Y, Z, Z, Z, Z, Y, Y, Y, Y, Z, Z, Z, Z, Y, Z, Z, Z, Z, Z, Z, Z, Z, Z, Z, Z, Z, Z, Z] rfl rfl (any_of HT_.out (by kernel_rfl)) (fun _ _ _ h => h) (Or.inl ⟨by rfl, ?_⟩) ?_ ?_
                             rotate_left
                             ·intro w'
                              go_simp
                              with_reducible rfl
                             rotate_left
                             ·simp only [Act.put, List.setIfInBounds_toArray, List.set_cons_zero, List.set_cons_succ, i64_w, i32_w]
                              rfl
                             refine pure_ (i := 22) (N := some 153) (v := ?_) (a' := ?_) #[Y, Y, Y, Z, Z, Y, Y, Y, Y, Z, Z, Z, Z, Y, Y, Y, Y, Z, Z, Z, Z, Y, Y, Z, Z, Z, Z, Z, Z, Z, Z, Z, Z, Z, Z, Z] rfl rfl (any_of HT_.out (by kernel_rfl)) (fun _ _ _ h => h) (Or.inl ⟨by rfl, ?_⟩) ?_ ?_
                             rotate_left
                             ·intro w'
                              go_simp
                              with_reducible rfl
                             rotate_left
                             ·simp only [Act.put, List.setIfInBounds_toArray, List.set_cons_zero, List.set_cons_succ, i64_w, i32_w]
                              rfl
                             refine pure_ (i := 23) (N := some 154) (v := ?_) (a' := ?_) #[Y, Y, Y, Z, Z, Y, Y, Y, Y, Z, Z, Z, Z, Y, Y, Y, Y, Z, Z, Z, Z, Y, Y, Y, Z, Z, Z, Z, Z, Z, Z, Z, Z, Z, Z, Z] rfl rfl (any_of HT_.out (by kernel_rfl)) (fun _ _ _ h => h) (Or.inl ⟨by rfl, ?_⟩) ?_ ?_
                             rotate_left
                             ·intro w'
                              go_simp
                              with_reducible rfl
                             rotate_left
                             ·simp only [Act.put, List.setIfInBounds_toArray, List.set_cons_zero, List.set_cons_succ, i64_w, i32_w]
                              rfl
                             refine pure_ (i := 24) (N := some 155) (v := ?_) (a' := ?_) #[Y, Y, Y, Z, Z, Y, Y, Y, Y, Z, Z, Z, Z, Y, Y, Y, Y, Z, Z, Z, Z, Y, Y, Y, Y, Z, Z, Z, Z, Z, Z, Z, Z, Z, Z, Z] rfl rfl (any_of HT_.out (by kernel_rfl)) (fun _ _ _ h => h) (Or.inl ⟨by rfl, ?_⟩) ?_ ?_
                             rotate_left
                             ·intro w'
                              go_simp
                              with_reducible rfl
                             rotate_left
                             ·simp only [Act.put, List.setIfInBounds_toArray, List.set_cons_zero, List.set_cons_succ, i64_w, i32_w]
                              rfl
                             refine take_ (i := 3) (N := some 134) (v := ?_) (a' := ?_) #[Y, Y, Y, Y, Z, Y, Y, Y, Y, Z, Z, Z, Z, Y, Y, Y, Y, Z, Z, Z, Z, Y, Y, Y, Y, Z, Z, Z, Z, Z, Z, Z, Z, Z, Z, Z] rfl rfl (take_ofW HT_.out HW_.out (by kernel_rfl)) (fun _ _ _ h => h) (Or.inl ⟨by rfl, ?_⟩) hHeld ?_ ?_
                             rotate_left
                             ·rintro w' ⟨s0, s1, s2, s3⟩
                              go_simp
                              with_reducible rfl
                             rotate_left
                             ·simp only [Act.put, List.setIfInBounds_toArray, List.set_cons_zero, List.set_cons_succ, i64_w, i32_w]
                              rfl
                             refine pure_ (i := 4) (N := some 135) (v := ?_) (a' := ?_) #[Y, Y, Y, Y, Y, Y, Y, Y, Y, Z, Z, Z, Z, Y, Y, Y, Y, Z, Z, Z, Z, Y, Y, Y, Y, Z, Z, Z, Z, Z, Z, Z, Z, Z, Z, Z] rfl rfl (any_of HT_.out (by kernel_rfl)) (fun _ _ _ h => h) (Or.inl ⟨by rfl, ?_⟩) ?_ ?_
                             rotate_left
                             ·intro w'
                              go_simp
                              with_reducible rfl
                             rotate_left
                             ·simp only [Act.put, List.setIfInBounds_toArray, List.set_cons_zero, List.set_cons_succ, i64_w, i32_w]
                              rfl
                             refine take_ (i := 9) (N := some 140) (v := ?_) (a' := ?_) #[Y, Y, Y, Y, Y, Y, Y, Y, Y, Y, Z, Z, Z, Y, Y, Y, Y, Z, Z, Z, Z, Y, Y, Y, Y, Z, Z, Z, Z, Z, Z, Z, Z, Z, Z, Z] rfl rfl (take_ofW HT_.out HW_.out (by kernel_rfl)) (fun _ _ _ h => h) (Or.inl ⟨by rfl, ?_⟩) hHeld ?_ ?_
                             rotate_left
                             ·rintro w' ⟨s0, s1, s2, s3⟩
                              go_simp
                              with_reducible rfl
                             rotate_left
                             ·simp only [Act.put, List.setIfInBounds_toArray, List.set_cons_zero, List.set_cons_succ, i64_w, i32_w]
                              rfl
                             refine pure_ (i := 10) (N := some 141) (v := ?_) (a' := ?_) #[Y, Y, Y, Y, Y, Y, Y, Y, Y, Y, Y, Z, Z, Y, Y, Y, Y, Z, Z, Z, Z, Y, Y, Y, Y, Z, Z, Z, Z, Z, Z, Z, Z, Z, Z, Z] rfl rfl (any_of HT_.out (by kernel_rfl)) (fun _ _ _ h => h) (Or.inl ⟨by rfl, ?_⟩) ?_ ?_
                             rotate_left
                             ·intro w'
                              go_simp
                              with_reducible rfl
                             rotate_left
                             ·simp only [Act.put, List.setIfInBounds_toArray, List.set_cons_zero, List.set_cons_succ, i64_w, i32_w]
                              rfl
                             refine pure_ (i := 11) (N := some 142) (v := ?_) (a' := ?_) #[Y, Y, Y, Y, Y, Y, Y, Y, Y, Y, Y, Y, Z, Y, Y, Y, Y, Z, Z, Z, Z, Y, Y, Y, Y, Z, Z, Z, Z, Z, Z, Z, Z, Z, Z, Z] rfl rfl (any_of HT_.out (by kernel_rfl)) (fun _ _ _ h => h) (Or.inl ⟨by rfl, ?_⟩) ?_ ?_
                             rotate_left
                             ·intro w'
                              go_simp
                              with_reducible rfl
                             rotate_left
                             ·simp only [Act.put, List.setIfInBounds_toArray, List.set_cons_zero, List.set_cons_succ, i64_w, i32_w]
                              rfl
                             refine pure_ (i := 12) (N := some 143) (v := ?_) (a' := ?_) #[Y, Y, Y, Y, Y, Y, Y, Y, Y, Y, Y, Y, Y, Y, Y, Y, Y, Z, Z, Z, Z, Y, Y, Y, Y, Z, Z, Z, Z, Z, Z, Z, Z, Z, Z, Z] rfl rfl (any_of HT_.out (by kernel_rfl)) (fun _ _ _ h => h) (Or.inl ⟨by rfl, ?_⟩) ?_ ?_
                             rotate_left
                             ·intro w'
                              go_simp
                              with_reducible rfl
                             rotate_left
                             ·simp only [Act.put, List.setIfInBounds_toArray, List.set_cons_zero, List.set_cons_succ, i64_w, i32_w]
                              rfl
                             refine take_ (i := 17) (N := some 148) (v := ?_) (a' := ?_) #[Y, Y, Y, Y, Y, Y, Y, Y, Y, Y, Y, Y, Y, Y, Y, Y, Y, Y, Z, Z, Z, Y, Y, Y, Y, Z, Z, Z, Z, Z, Z, Z, Z, Z, Z, Z] rfl rfl (take_ofW HT_.out HW_.out (by kernel_rfl)) (fun _ _ _ h => h) (Or.inl ⟨by rfl, ?_⟩) hHeld ?_ ?_
                             rotate_left
                             ·rintro w' ⟨s0, s1, s2, s3⟩
                              go_simp
                              with_reducible rfl
                             rotate_left
                             ·simp only [Act.put, List.setIfInBounds_toArray, List.set_cons_zero, List.set_cons_succ, i64_w, i32_w]
                              rfl
                             refine pure_ (i := 18) (N := some 149) (v := ?_) (a' := ?_) #[Y, Y, Y, Y, Y, Y, Y, Y, Y, Y, Y, Y, Y, Y, Y, Y, Y, Y, Y, Z, Z, Y, Y, Y, Y, Z, Z, Z, Z, Z, Z, Z, Z, Z, Z, Z] rfl rfl (any_of HT_.out (by kernel_rfl)) (fun _ _ _ h => h) (Or.inl ⟨by rfl, ?_⟩) ?_ ?_
                             rotate_left
                             ·intro w'
                              go_simp
                              with_reducible rfl
                             rotate_left
                             ·simp only [Act.put, List.setIfInBounds_toArray, List.set_cons_zero, List.set_cons_succ, i64_w, i32_w]
                              rfl
                             refine pure_ (i := 19) (N := some 150) (v := ?_) (a' := ?_) #[Y, Y, Y, Y, Y, Y, Y, Y, Y, Y, Y, Y, Y, Y, Y, Y, Y, Y, Y, Y, Z, Y, Y, Y, Y, Z, Z, Z, Z, Z, Z, Z, Z, Z, Z, Z] rfl rfl (any_of HT_.out (by kernel_rfl)) (fun _ _ _ h => h) (Or.inl ⟨by rfl, ?_⟩) ?_ ?_
                             rotate_left
                             ·intro w'
                              go_simp
                              with_reducible rfl
                             rotate_left
                             ·simp only [Act.put, List.setIfInBounds_toArray, List.set_cons_zero, List.set_cons_succ, i64_w, i32_w]
                              rfl
                             refine pure_ (i := 20) (N := some 151) (v := ?_) (a' := ?_) #[Y, Y, Y, Y, Y, Y, Y, Y, Y, Y, Y, Y, Y, Y, Y, Y, Y, Y, Y, Y, Y, Y, Y, Y, Y, Z, Z, Z, Z, Z, Z, Z, Z, Z, Z, Z] rfl rfl (any_of HT_.out (by kernel_rfl)) (fun _ _ _ h => h) (Or.inl ⟨by rfl, ?_⟩) ?_ ?_
                             rotate_left
                             ·intro w'
                              go_simp
                              with_reducible rfl
                             rotate_left
                             ·simp only [Act.put, List.setIfInBounds_toArray, List.set_cons_zero, List.set_cons_succ, i64_w, i32_w]
                              rfl
                             refine take_ (i := 25) (N := some 156) (v := ?_) (a' := ?_) #[Y, Y, Y, Y, Y, Y, Y, Y, Y, Y, Y, Y, Y, Y, Y, Y, Y, Y, Y, Y, Y, Y, Y, Y, Y, Y, Z, Z, Z, Z, Z, Z, Z, Z, Z, Z] rfl rfl (take_ofW HT_.out HW_.out (by kernel_rfl)) (fun _ _ _ h => h) (Or.inl ⟨by rfl, ?_⟩) hHeld ?_ ?_
                             rotate_left
                             ·rintro w' ⟨s0, s1, s2, s3⟩
                              go_simp
                              with_reducible rfl
                             rotate_left
                             ·simp only [Act.put, List.setIfInBounds_toArray, List.set_cons_zero, List.set_cons_succ, i64_w, i32_w]
                              rfl
                             refine pure_ (i := 26) (N := some 157) (v := ?_) (a' := ?_) #[Y, Y, Y, Y, Y, Y, Y, Y, Y, Y, Y, Y, Y, Y, Y, Y, Y, Y, Y, Y, Y, Y, Y, Y, Y, Y, Y, Z, Z, Z, Z, Z, Z, Z, Z, Z] rfl rfl (any_of HT_.out (by kernel_rfl)) (fun _ _ _ h => h) (Or.inl ⟨by rfl, ?_⟩) ?_ ?_
                             rotate_left
                             ·intro w'
                              go_simp
                              with_reducible rfl
                             rotate_left
                             ·simp only [Act.put, List.setIfInBounds_toArray, List.set_cons_zero, List.set_cons_succ, i64_w, i32_w]
                              rfl
                             refine pure_ (i := 27) (N := some 158) (v := ?_) (a' := ?_) #[Y, Y, Y, Y, Y, Y, Y, Y, Y, Y, Y, Y, Y, Y, Y, Y, Y, Y, Y, Y, Y, Y, Y, Y, Y, Y, Y, Y, Z, Z, Z, Z, Z, Z, Z, Z] rfl rfl (any_of HT_.out (by kernel_rfl)) (fun _ _ _ h => h) (Or.inl ⟨by rfl, ?_⟩) ?_ ?_
                             rotate_left
                             ·intro w'
                              go_simp
                              with_reducible rfl
                             rotate_left
                             ·simp only [Act.put, List.setIfInBounds_toArray, List.set_cons_zero, List.set_cons_succ, i64_w, i32_w]
                              rfl
                             refine pure_ (i := 28) (N := some 159) (v := ?_) (a' := ?_) #[Y, Y, Y, Y, Y, Y, Y, Y, Y, Y, Y, Y, Y, Y, Y, Y, Y, Y, Y, Y, Y, Y, Y, Y, Y, Y, Y, Y, Y, Z, Z, Z, Z, Z, Z, Z] rfl rfl (any_of HT_.out (by kernel_rfl)) (fun _ _ _ h => h) (Or.inl ⟨by rfl, ?_⟩) ?_ ?_
                             rotate_left
                             ·intro w'
                              go_simp
                              with_reducible rfl
                             rotate_left
                             ·simp only [Act.put, List.setIfInBounds_toArray, List.set_cons_zero, List.set_cons_succ, i64_w, i32_w]
                              rfl
                             refine join_ (σ := Nat) 2 #[Y, Y, Y, Y, Y, Y, Y, Y, Y, Y, Y, Y, Y, Y, Y, Y, Y, Y, Y, Y, Y, Y, Y, Y, Y, Y, Y, Y, Y, Y, Y, Y, Y, Y, Z, Z] (fun s_ => [(160, .tuple #[.agg #[.int .i64 t332, .int .i64 t333, .int .i64 t334, .int .i64 t335, .int .i64 t336, .int .i32 t337, .string t338], .bool false]), (16, .pointer (some ⟨s_, 0, none⟩)), (130, .tuple #[.agg #[.int .i64 t332, .int .i64 t333, .int .i64 t334, .int .i64 t335, .int .i64 t336, .int .i32 t337, .string t338], .bool false]), (161, .agg #[.int .i64 t332, .int .i64 t333, .int .i64 t334, .int .i64 t335, .int .i64 t336, .int .i32 t337, .string t338]), (162, .bool false)]) (fun s_ w' => (w'.cell? (ad328.add (t317).toNat) = some (.int .u8 (rd y286 t317)) ∧ w'.cell? (ad328.add ((ji110)).toNat) = some (.int .u8 (rd y286 (ji110))) ∧ w'.cell? (ad328.add ((ji113)).toNat) = some (.int .u8 (rd y286 (ji113))) ∧ w'.cell? (ad328.add ((ji116)).toNat) = some (.int .u8 (rd y286 (ji116)))) ∧ (w'.heap[s_]? = some (.cells #[.int .i64 0, .int .i64 0, .int .i64 0, .int .i64 0, .int .i64 0, .int .i32 0, .string (⟨#[]⟩ : ByteArray)] 23 (0, 0))) ∧ (w.heap.size ≤ s_) ∧ (w.heap.size ≤ s_) ∧ (Below w.heap.size w w')) ?_ ?_
                             rotate_left
                             ·intro hCont
                              refine two_ (i := 29) (j := 33) (Ni := some 160) (Nj := some 16) #[Y, Y, Y, Y, Y, Y, Y, Y, Y, Y, Y, Y, Y, Y, Y, Y, Y, Y, Y, Y, Y, Y, Y, Y, Y, Y, Y, Y, Y, Y, Z, Z, Z, Z, Z, Z] #[Y, Y, Y, Y, Y, Y, Y, Y, Y, Y, Y, Y, Y, Y, Y, Y, Y, Y, Y, Y, Y, Y, Y, Y, Y, Y, Y, Y, Y, Z, Z, Z, Z, Y, Z, Z] rfl rfl rfl rfl (two_of HT_.out (by kernel_rfl)) (by decide) (by decide) (fun K hK => ?_) (fun K hK => ?_)
                              ·skip
                               refine goes_ Try.func10 (by kernel_rfl) rfl #[.int .u32 (Go.bits .or .u32 (Go.bits .or .u32 (Go.bits .or .u32 ((rd y286 t317) % 4294967296) ((((rd y286 (ji110)) % 4294967296) * 256) % 4294967296)) ((((rd y286 (ji113)) % 4294967296) * 65536) % 4294967296)) ((((rd y286 (ji116)) % 4294967296) * 16777216) % 4294967296))] (by rfl) rfl rfl (by (try simp only [List.map_toArray, List.map_cons, List.map_nil]); rfl) ?_
                               with_reducible refine (code_Decode.calls kj93 (Go.bits .or .u32 (Go.bits .or .u32 (Go.bits .or .u32 ((rd y286 t317) % 4294967296) ((((rd y286 (ji110)) % 4294967296) * 256) % 4294967296)) ((((rd y286 (ji113)) % 4294967296) * 65536) % 4294967296)) ((((rd y286 (ji116)) % 4294967296) * 16777216) % 4294967296)) t332 t333 t334 t335 t336 t337 t338 false _ A119.out).mono ?_
                               rintro e w134 ⟨rfl, hb⟩
                               refine ⟨_, rfl, ?_⟩
                               have n0_ := Aside0.mk (below_step (by repeat ((with_reducible exact HB.out))) hb)
                               clear HB
                               have HB := n0_
                               clear n0_
                               (try clear hb)
                               refine hK.out _ _ ⟨((HB.out.cell (World.block_lt_of_cell? w _ hw328_0)).trans hw328_0), ((HB.out.cell (World.block_lt_of_cell? w _ hw329_0)).trans hw329_0), ((HB.out.cell (World.block_lt_of_cell? w _ hw330_0)).trans hw330_0), ((HB.out.cell (World.block_lt_of_cell? w _ hw331_0)).trans hw331_0)⟩ (fun hHeld => ?_)
                               clear hK K
                               refine norm_ (a' := ?_) ?_ ?_
                               rotate_left
                               ·show Act.put _ (some 160) _ = _
                                simp only [Act.put, List.setIfInBounds_toArray, List.set_cons_zero, List.set_cons_succ, i64_w, i32_w]
                                rfl
                               refine pure_ (i := 30) (N := some 130) (v := ?_) (a' := ?_) #[Y, Y, Y, Y, Y, Y, Y, Y, Y, Y, Y, Y, Y, Y, Y, Y, Y, Y, Y, Y, Y, Y, Y, Y, Y, Y, Y, Y, Y, Y, Y, Z, Z, Z, Z, Z] rfl rfl (any_of HT_.out (by kernel_rfl)) (fun _ _ _ h => h) (Or.inl ⟨by rfl, ?_⟩) ?_ ?_
                               rotate_left
                               ·intro w'
                                go_simp
                                with_reducible rfl
                               rotate_left
                               ·simp only [Act.put, List.setIfInBounds_toArray, List.set_cons_zero, List.set_cons_succ, i64_w, i32_w]
                                rfl
                               refine pure_ (i := 31) (N := some 161) (v := ?_) (a' := ?_) #[Y, Y, Y, Y, Y, Y, Y, Y, Y, Y, Y, Y, Y, Y, Y, Y, Y, Y, Y, Y, Y, Y, Y, Y, Y, Y, Y, Y, Y, Y, Y, Y, Z, Z, Z, Z] rfl rfl (any_of HT_.out (by kernel_rfl)) (fun _ _ _ h => h) (Or.inl ⟨by rfl, ?_⟩) ?_ ?_
                               rotate_left
                               ·intro w'
                                go_simp
                                with_reducible rfl
                               rotate_left
                               ·simp only [Act.put, List.setIfInBounds_toArray, List.set_cons_zero, List.set_cons_succ, i64_w, i32_w]
                                rfl
                               refine pure_ (i := 32) (N := some 162) (v := ?_) (a' := ?_) #[Y, Y, Y, Y, Y, Y, Y, Y, Y, Y, Y, Y, Y, Y, Y, Y, Y, Y, Y, Y, Y, Y, Y, Y, Y, Y, Y, Y, Y, Y, Y, Y, Y, Z, Z, Z] rfl rfl (any_of HT_.out (by kernel_rfl)) (fun _ _ _ h => h) (Or.inl ⟨by rfl, ?_⟩) ?_ ?_
                               rotate_left
                               ·intro w'
                                go_simp
                                with_reducible rfl
                               rotate_left
                               ·simp only [Act.put, List.setIfInBounds_toArray, List.set_cons_zero, List.set_cons_succ, i64_w, i32_w]
                                rfl
                               refine one_ (i := 33) (N := some 16) #[Y, Y, Y, Y, Y, Y, Y, Y, Y, Y, Y, Y, Y, Y, Y, Y, Y, Y, Y, Y, Y, Y, Y, Y, Y, Y, Y, Y, Y, Y, Y, Y, Y, Y, Z, Z] rfl rfl (one_of HT_.out (by kernel_rfl)) (by decide) (fun K hK => ?_)
                               refine box_step ?hg (N := 16) ?hd (cs := #[.int .i64 0, .int .i64 0, .int .i64 0, .int .i64 0, .int .i64 0, .int .i32 0, .string (⟨#[]⟩ : ByteArray)]) (t := 23) ?hr ?_; (case hd => rfl); (case hg => rfl); (case hr => (go_simp; done))
                               intro gb340 hg w135 hbox hb
                               have n0_ := Aside0.mk (below_step (by repeat ((with_reducible exact HB.out))) hb)
                               have n1_ := Aside0.mk (hbox)
                               have n2_ := Aside0.mk ((by rw [hg]; exact (below_size (by repeat ((with_reducible exact HB.out)))) : w.heap.size ≤ gb340))
                               have n3_ := Aside0.mk ((by rw [hg]; exact (below_size (by repeat ((with_reducible exact HB.out)))) : w.heap.size ≤ gb340))
                               clear HB
                               have HB := n0_
                               have BK340 := n1_
                               have GW340 := n2_
                               have GE340 := n3_
                               clear n0_ n1_ n2_ n3_ hb hbox hg
                               refine hK.out _ _ ⟨((HB.out.cell (World.block_lt_of_cell? w _ hw328_0)).trans hw328_0), ((HB.out.cell (World.block_lt_of_cell? w _ hw329_0)).trans hw329_0), ((HB.out.cell (World.block_lt_of_cell? w _ hw330_0)).trans hw330_0), ((HB.out.cell (World.block_lt_of_cell? w _ hw331_0)).trans hw331_0)⟩ (fun hHeld => ?_)
                               clear hK K
                               refine norm_ (a' := ?_) ?_ ?_
                               rotate_left
                               ·show Act.put _ (some 16) _ = _
                                simp only [Act.put, List.setIfInBounds_toArray, List.set_cons_zero, List.set_cons_succ, i64_w, i32_w]
                                rfl
                               exact norm_ (by simp only [putAll, Act.put, List.setIfInBounds_toArray, List.set_cons_zero, List.set_cons_succ]) (hCont (gb340) _ ⟨hHeld, (by (with_reducible repeat (fail)); exact BK340.out), GW340.out, GE340.out, (by repeat ((with_reducible exact HB.out)))⟩)
                              ·skip
                               refine box_step ?hg (N := 16) ?hd (cs := #[.int .i64 0, .int .i64 0, .int .i64 0, .int .i64 0, .int .i64 0, .int .i32 0, .string (⟨#[]⟩ : ByteArray)]) (t := 23) ?hr ?_; (case hd => rfl); (case hg => rfl); (case hr => (go_simp; done))
                               intro gb340 hg w134 hbox hb
                               have n0_ := Aside0.mk (below_step (by repeat ((with_reducible exact HB.out))) hb)
                               have n1_ := Aside0.mk (hbox)
                               have n2_ := Aside0.mk ((by rw [hg]; exact (below_size (by repeat ((with_reducible exact HB.out)))) : w.heap.size ≤ gb340))
                               have n3_ := Aside0.mk ((by rw [hg]; exact (below_size (by repeat ((with_reducible exact HB.out)))) : w.heap.size ≤ gb340))
                               clear HB
                               have HB := n0_
                               have BK340 := n1_
                               have GW340 := n2_
                               have GE340 := n3_
                               clear n0_ n1_ n2_ n3_ hb hbox hg
                               refine hK.out _ _ ⟨((HB.out.cell (World.block_lt_of_cell? w _ hw328_0)).trans hw328_0), ((HB.out.cell (World.block_lt_of_cell? w _ hw329_0)).trans hw329_0), ((HB.out.cell (World.block_lt_of_cell? w _ hw330_0)).trans hw330_0), ((HB.out.cell (World.block_lt_of_cell? w _ hw331_0)).trans hw331_0)⟩ (fun hHeld => ?_)
                               clear hK K
                               refine norm_ (a' := ?_) ?_ ?_
                               rotate_left
                               ·show Act.put _ (some 16) _ = _
                                simp only [Act.put, List.setIfInBounds_toArray, List.set_cons_zero, List.set_cons_succ, i64_w, i32_w]
                                rfl
                               refine one_ (i := 29) (N := some 160) #[Y, Y, Y, Y, Y, Y, Y, Y, Y, Y, Y, Y, Y, Y, Y, Y, Y, Y, Y, Y, Y, Y, Y, Y, Y, Y, Y, Y, Y, Y, Z, Z, Z, Y, Z, Z] rfl rfl (one_of HT_.out (by kernel_rfl)) (by decide) (fun K hK => ?_)
                               refine goes_ Try.func10 (by kernel_rfl) rfl #[.int .u32 (Go.bits .or .u32 (Go.bits .or .u32 (Go.bits .or .u32 ((rd y286 t317) % 4294967296) ((((rd y286 (ji110)) % 4294967296) * 256) % 4294967296)) ((((rd y286 (ji113)) % 4294967296) * 65536) % 4294967296)) ((((rd y286 (ji116)) % 4294967296) * 16777216) % 4294967296))] (by rfl) rfl rfl (by (try simp only [List.map_toArray, List.map_cons, List.map_nil]); rfl) ?_
                               with_reducible refine (code_Decode.calls kj93 (Go.bits .or .u32 (Go.bits .or .u32 (Go.bits .or .u32 ((rd y286 t317) % 4294967296) ((((rd y286 (ji110)) % 4294967296) * 256) % 4294967296)) ((((rd y286 (ji113)) % 4294967296) * 65536) % 4294967296)) ((((rd y286 (ji116)) % 4294967296) * 16777216) % 4294967296)) t332 t333 t334 t335 t336 t337 t338 false _ A119.out).mono ?_
                               rintro e w135 ⟨rfl, hb⟩
                               refine ⟨_, rfl, ?_⟩
                               have n0_ := Aside0.mk (blk_below (g := gb340) (o := .cells #[.int .i64 0, .int .i64 0, .int .i64 0, .int .i64 0, .int .i64 0, .int .i32 0, .string (⟨#[]⟩ : ByteArray)] 23 (0, 0)) (by (with_reducible repeat (fail)); exact BK340.out) hb)
                               have n1_ := Aside0.mk (below_step (by repeat ((with_reducible exact HB.out))) hb)
                               clear BK340 HB
                               have BK340 := n0_
                               have HB := n1_
                               clear n0_ n1_
                               (try clear hb)
                               refine hK.out _ _ ⟨((HB.out.cell (World.block_lt_of_cell? w _ hw328_0)).trans hw328_0), ((HB.out.cell (World.block_lt_of_cell? w _ hw329_0)).trans hw329_0), ((HB.out.cell (World.block_lt_of_cell? w _ hw330_0)).trans hw330_0), ((HB.out.cell (World.block_lt_of_cell? w _ hw331_0)).trans hw331_0)⟩ (fun hHeld => ?_)
                               clear hK K
                               refine norm_ (a' := ?_) ?_ ?_
                               rotate_left
                               ·show Act.put _ (some 160) _ = _
                                simp only [Act.put, List.setIfInBounds_toArray, List.set_cons_zero, List.set_cons_succ, i64_w, i32_w]
                                rfl
                               refine pure_ (i := 30) (N := some 130) (v := ?_) (a' := ?_) #[Y, Y, Y, Y, Y, Y, Y, Y, Y, Y, Y, Y, Y, Y, Y, Y, Y, Y, Y, Y, Y, Y, Y, Y, Y, Y, Y, Y, Y, Y, Y, Z, Z, Y, Z, Z] rfl rfl (any_of HT_.out (by kernel_rfl)) (fun _ _ _ h => h) (Or.inl ⟨by rfl, ?_⟩) ?_ ?_
                               rotate_left
                               ·intro w'
                                go_simp
                                with_reducible rfl
                               rotate_left
                               ·simp only [Act.put, List.setIfInBounds_toArray, List.set_cons_zero, List.set_cons_succ, i64_w, i32_w]
                                rfl
                               refine pure_ (i := 31) (N := some 161) (v := ?_) (a' := ?_) #[Y, Y, Y, Y, Y, Y, Y, Y, Y, Y, Y, Y, Y, Y, Y, Y, Y, Y, Y, Y, Y, Y, Y, Y, Y, Y, Y, Y, Y, Y, Y, Y, Z, Y, Z, Z] rfl rfl (any_of HT_.out (by kernel_rfl)) (fun _ _ _ h => h) (Or.inl ⟨by rfl, ?_⟩) ?_ ?_
                               rotate_left
                               ·intro w'
                                go_simp
                                with_reducible rfl
                               rotate_left
                               ·simp only [Act.put, List.setIfInBounds_toArray, List.set_cons_zero, List.set_cons_succ, i64_w, i32_w]
                                rfl
                               refine pure_ (i := 32) (N := some 162) (v := ?_) (a' := ?_) #[Y, Y, Y, Y, Y, Y, Y, Y, Y, Y, Y, Y, Y, Y, Y, Y, Y, Y, Y, Y, Y, Y, Y, Y, Y, Y, Y, Y, Y, Y, Y, Y, Y, Y, Z, Z] rfl rfl (any_of HT_.out (by kernel_rfl)) (fun _ _ _ h => h) (Or.inl ⟨by rfl, ?_⟩) ?_ ?_
                               rotate_left
                               ·intro w'
                                go_simp
                                with_reducible rfl
                               rotate_left
                               ·simp only [Act.put, List.setIfInBounds_toArray, List.set_cons_zero, List.set_cons_succ, i64_w, i32_w]
                                rfl
                               exact norm_ (by simp only [putAll, Act.put, List.setIfInBounds_toArray, List.set_cons_zero, List.set_cons_succ]) (hCont (gb340) _ ⟨hHeld, (by (with_reducible repeat (fail)); exact BK340.out), GW340.out, GE340.out, (by repeat ((with_reducible exact HB.out)))⟩)
                             rintro gb340 w136 ⟨hS_, h0_, h1_, h2_, h3_⟩
                             have n0_ : Aside0 (w136.heap[gb340]? = some (.cells #[.int .i64 0, .int .i64 0, .int .i64 0, .int .i64 0, .int .i64 0, .int .i32 0, .string (⟨#[]⟩ : ByteArray)] 23 (0, 0))) := ⟨h0_⟩
                             have n1_ : Aside0 (w.heap.size ≤ gb340) := ⟨h1_⟩
                             have n2_ : Aside0 (w.heap.size ≤ gb340) := ⟨h2_⟩
                             have n3_ : Aside0 (Below w.heap.size w w136) := ⟨h3_⟩
                             clear HB h0_ h1_ h2_ h3_
                             have BK340 := n0_
                             have GW340 := n1_
                             have GE340 := n2_
                             have HB := n3_
                             clear n0_ n1_ n2_ n3_
                             have hHeld : w136.cell? (ad328.add (t317).toNat) = some (.int .u8 (rd y286 t317)) ∧ w136.cell? (ad328.add ((ji110)).toNat) = some (.int .u8 (rd y286 (ji110))) ∧ w136.cell? (ad328.add ((ji113)).toNat) = some (.int .u8 (rd y286 (ji113))) ∧ w136.cell? (ad328.add ((ji116)).toNat) = some (.int .u8 (rd y286 (ji116))) := hS_
                             refine norm_ (a' := ?_) ?_ ?_
                             rotate_left
                             ·simp only [putAll, Act.put, List.setIfInBounds_toArray, List.set_cons_zero, List.set_cons_succ]
                              rfl
                             refine one_ (i := 34) (N := none) #[Y, Y, Y, Y, Y, Y, Y, Y, Y, Y, Y, Y, Y, Y, Y, Y, Y, Y, Y, Y, Y, Y, Y, Y, Y, Y, Y, Y, Y, Y, Y, Y, Y, Y, Y, Z] rfl rfl (one_of HT_.out (by kernel_rfl)) (by decide) (fun K hK => ?_)
                             have hs137 : w136.cell? ⟨gb340, 0, none⟩ = some (.int .i64 0) := (blk_cell BK340.out 0).trans rfl
                             have hfs137 := blk_frozen BK340.out 0
                             have hs138 : w136.cell? ⟨gb340, 1, none⟩ = some (.int .i64 0) := (blk_cell BK340.out 1).trans rfl
                             have hfs138 := blk_frozen BK340.out 1
                             have hs139 : w136.cell? ⟨gb340, 2, none⟩ = some (.int .i64 0) := (blk_cell BK340.out 2).trans rfl
                             have hfs139 := blk_frozen BK340.out 2
                             have hs140 : w136.cell? ⟨gb340, 3, none⟩ = some (.int .i64 0) := (blk_cell BK340.out 3).trans rfl
                             have hfs140 := blk_frozen BK340.out 3
                             have hs141 : w136.cell? ⟨gb340, 4, none⟩ = some (.int .i64 0) := (blk_cell BK340.out 4).trans rfl
                             have hfs141 := blk_frozen BK340.out 4
                             have hs142 : w136.cell? ⟨gb340, 5, none⟩ = some (.int .i32 0) := (blk_cell BK340.out 5).trans rfl
                             have hfs142 := blk_frozen BK340.out 5
                             have hs143 : w136.cell? ⟨gb340, 6, none⟩ = some (.string (⟨#[]⟩ : ByteArray)) := (blk_cell BK340.out 6).trans rfl
                             have hfs143 := blk_frozen BK340.out 6
                             refine skip_ (w1 := ?_) (by rfl) rfl ?_ ?_
                             rotate_left
                             ·go_simp
                              rfl
                             refine hK.out _ _ ⟨((cell_far (p := ⟨gb340, _, none⟩) (xfar hw328_0 GW340.out) _).trans (((cell_far (p := ⟨gb340, _, none⟩) (xfar hw328_0 GW340.out) _).trans (((cell_far (p := ⟨gb340, _, none⟩) (xfar hw328_0 GW340.out) _).trans (((cell_far (p := ⟨gb340, _, none⟩) (xfar hw328_0 GW340.out) _).trans (((cell_far (p := ⟨gb340, _, none⟩) (xfar hw328_0 GW340.out) _).trans (((cell_far (p := ⟨gb340, _, none⟩) (xfar hw328_0 GW340.out) _).trans (((cell_far (p := ⟨gb340, _, none⟩) (xfar hw328_0 GW340.out) _).trans (hHeld.1)))))))))))))), ((cell_far (p := ⟨gb340, _, none⟩) (xfar hw329_0 GW340.out) _).trans (((cell_far (p := ⟨gb340, _, none⟩) (xfar hw329_0 GW340.out) _).trans (((cell_far (p := ⟨gb340, _, none⟩) (xfar hw329_0 GW340.out) _).trans (((cell_far (p := ⟨gb340, _, none⟩) (xfar hw329_0 GW340.out) _).trans (((cell_far (p := ⟨gb340, _, none⟩) (xfar hw329_0 GW340.out) _).trans (((cell_far (p := ⟨gb340, _, none⟩) (xfar hw329_0 GW340.out) _).trans (((cell_far (p := ⟨gb340, _, none⟩) (xfar hw329_0 GW340.out) _).trans (hHeld.2.1)))))))))))))), ((cell_far (p := ⟨gb340, _, none⟩) (xfar hw330_0 GW340.out) _).trans (((cell_far (p := ⟨gb340, _, none⟩) (xfar hw330_0 GW340.out) _).trans (((cell_far (p := ⟨gb340, _, none⟩) (xfar hw330_0 GW340.out) _).trans (((cell_far (p := ⟨gb340, _, none⟩) (xfar hw330_0 GW340.out) _).trans (((cell_far (p := ⟨gb340, _, none⟩) (xfar hw330_0 GW340.out) _).trans (((cell_far (p := ⟨gb340, _, none⟩) (xfar hw330_0 GW340.out) _).trans (((cell_far (p := ⟨gb340, _, none⟩) (xfar hw330_0 GW340.out) _).trans (hHeld.2.2.1)))))))))))))), ((cell_far (p := ⟨gb340, _, none⟩) (xfar hw331_0 GW340.out) _).trans (((cell_far (p := ⟨gb340, _, none⟩) (xfar hw331_0 GW340.out) _).trans (((cell_far (p := ⟨gb340, _, none⟩) (xfar hw331_0 GW340.out) _).trans (((cell_far (p := ⟨gb340, _, none⟩) (xfar hw331_0 GW340.out) _).trans (((cell_far (p := ⟨gb340, _, none⟩) (xfar hw331_0 GW340.out) _).trans (((cell_far (p := ⟨gb340, _, none⟩) (xfar hw331_0 GW340.out) _).trans (((cell_far (p := ⟨gb340, _, none⟩) (xfar hw331_0 GW340.out) _).trans (hHeld.2.2.2))))))))))))))⟩ (fun hHeld => ?_)
                             clear hK K
                             refine pure_ (i := 35) (N := some 17) (v := ?_) (a' := ?_) #[Y, Y, Y, Y, Y, Y, Y, Y, Y, Y, Y, Y, Y, Y, Y, Y, Y, Y, Y, Y, Y, Y, Y, Y, Y, Y, Y, Y, Y, Y, Y, Y, Y, Y, Y, Y] rfl rfl (any_of HT_.out (by kernel_rfl)) (fun _ _ _ h => h) (Or.inl ⟨by rfl, ?_⟩) ?_ ?_
                             rotate_left
                             ·intro w'
                              go_simp
                              with_reducible rfl
                             rotate_left
                             ·simp only [Act.put, List.setIfInBounds_toArray, List.set_cons_zero, List.set_cons_succ, i64_w, i32_w]
                              rfl
                             refine done_ (done_of HT_.out (by kernel_rfl)) ?_
                             try go_wp2_with ((go_at_call 7; (with_reducible refine (brazierlaw19_lives.calls kj93  t341 _ A132.out).mono ?_); rintro e w144 ⟨rfl, hb⟩; have n0_ := Aside0.mk (blk_below (g := gb340) (o := .cells #[.int .i64 t332, .int .i64 t333, .int .i64 t334, .int .i64 t335, .int .i64 t336, .int .i32 t337, .string t338] 23 (0, 0)) (by (with_reducible repeat (fail)); refine blk_put (cs := #[.int .i64 t332, .int .i64 t333, .int .i64 t334, .int .i64 t335, .int .i64 t336, .int .i32 t337, .string (⟨#[]⟩ : ByteArray)]) ?_ 6 _ rfl; (with_reducible repeat (fail)); refine blk_put (cs := #[.int .i64 t332, .int .i64 t333, .int .i64 t334, .int .i64 t335, .int .i64 t336, .int .i32 0, .string (⟨#[]⟩ : ByteArray)]) ?_ 5 _ rfl; (with_reducible repeat (fail)); refine blk_put (cs := #[.int .i64 t332, .int .i64 t333, .int .i64 t334, .int .i64 t335, .int .i64 0, .int .i32 0, .string (⟨#[]⟩ : ByteArray)]) ?_ 4 _ rfl; (with_reducible repeat (fail)); refine blk_put (cs := #[.int .i64 t332, .int .i64 t333, .int .i64 t334, .int .i64 0, .int .i64 0, .int .i32 0, .string (⟨#[]⟩ : ByteArray)]) ?_ 3 _ rfl; (with_reducible repeat (fail)); refine blk_put (cs := #[.int .i64 t332, .int .i64 t333, .int .i64 0, .int .i64 0, .int .i64 0, .int .i32 0, .string (⟨#[]⟩ : ByteArray)]) ?_ 2 _ rfl; (with_reducible repeat (fail)); refine blk_put (cs := #[.int .i64 t332, .int .i64 0, .int .i64 0, .int .i64 0, .int .i64 0, .int .i32 0, .string (⟨#[]⟩ : ByteArray)]) ?_ 1 _ rfl; (with_reducible repeat (fail)); refine blk_put (cs := #[.int .i64 0, .int .i64 0, .int .i64 0, .int .i64 0, .int .i64 0, .int .i32 0, .string (⟨#[]⟩ : ByteArray)]) ?_ 0 _ rfl; (with_reducible repeat (fail)); exact BK340.out) hb); have n1_ := Aside0.mk (below_step (by repeat ((with_reducible first | exact HB.out | refine below_set ?_ GE340.out))) hb); clear BK340; clear HB; have BK340 := n0_; have HB := n1_; clear n0_ n1_; (try clear hb)))
                             go_ret
                             exact ⟨by rfl, by repeat ((with_reducible exact HB.out))⟩
                           ·rw [if_neg c118] at H
                            exact absurd H (by simp)
                          ·rw [if_neg c117] at H
                           exact absurd H (by simp)
                         ·rw [if_neg c115] at H
                          exact absurd H (by simp)
                        ·rw [if_neg c114] at H
                         exact absurd H (by simp)
                       ·rw [if_neg c112] at H
                        exact absurd H (by simp)
                      ·rw [if_neg c111] at H
                       exact absurd H (by simp)
                     ·rw [if_neg c109] at H
                      exact absurd H (by simp)
                    ·rw [if_neg c108] at H
                     exact absurd H (by simp)
                   ·rw [if_neg c107] at H
                    have c107b0 : decide (4 ≤ (wrap64 ((y286.length : Int) - t317))) = false := decide_eq_false c107
                    clear c107
                    replace H := Option.bind_eq_some_iff.mp H
                    obtain ⟨t342, A1450, H⟩ := H
                    replace H : (some t342) = some r := H
                    have A145 := Aside0.mk A1450
                    clear A1450
                    obtain rfl := Option.some.inj H
                    go_wp2_with (((with_reducible refine gate_callee (f := 7) rfl ?_); refine goesL_ (some 168) rfl rfl Try.func7 (by kernel_rfl) rfl #[] rfl (by (try simp only [List.map_toArray, List.map_cons, List.map_nil]); done) ?_; (with_reducible refine (brazierlaw19_lives.calls kj93  t342 _ A145.out).mono ?_); rintro e w146 ⟨rfl, hb⟩; refine ⟨_, rfl, ?_⟩; have n0_ := Aside0.mk (below_step (by repeat ((with_reducible exact HB.out))) hb); clear HB; have HB := n0_; clear n0_; (try clear hb)))
                    go_ret
                    exact ⟨by rfl, by repeat ((with_reducible exact HB.out))⟩
    ·rw [if_neg c8] at H
     exact absurd H (by simp)
   ·rw [if_neg c7] at H
    exact absurd H (by simp)
  ·rw [if_neg c5] at H
   exact absurd H (by simp)
 ·rw [if_neg c4] at H
  exact absurd H (by simp)

end Go.Proofs.Ytpoofggcodiaiaa.X
