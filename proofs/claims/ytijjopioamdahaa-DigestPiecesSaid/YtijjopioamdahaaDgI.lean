/- The document's examples; a cut; the CRC of any bytes, on the walk. -/
import Derived.Test.YtijjopioamdahaaProg
import Derived.Below
import Derived.Deep.Draws
import Derived.Deep.AppendLies
import Derived.Maps.AppendAt
import Derived.OwnWalk
import Derived.Laws.BytesArg
import Derived.Laws.MakeOwn
import Derived.Laws.OwnMore
import Derived.Deep.OwnRows
import Derived.Tactics
import Derived.Lib.ConvBytes
import Derived.Laws.Slices
import Derived.WalkKit
import Derived.KernelRfl
import Derived.RowKit3
import Derived.Deep.LoopGhost
import Derived.Deep.QuietTactic
import Derived.BigQuiet
import Derived.WideLaws
import Derived.Deep.DeepCutAuto
import Derived.Deep.CutBlock
import Derived.Deep.RegionHeld3
import Derived.Laws.Rows
import Derived.Lib.AppendStr
import Derived.ArgAppend
import Derived.Laws.IdiomCopy
import Derived.OrdersHeld
import Derived.Laws.BitsLemmas
import Derived.RowKit
import Derived.Test.YtijjopioamdahaaWWords
import Derived.Test.YtijjopioamdahaaWLast
import Derived.Test.YtijjopioamdahaaWTab
import Derived.Test.YtijjopioamdahaaWQPut
import Derived.Test.YtijjopioamdahaaWApart
import Derived.Test.YtijjopioamdahaaWArr
import Derived.Test.YtijjopioamdahaaWZeros
import Derived.Test.YtijjopioamdahaaWFoot
import Derived.Test.YtijjopioamdahaaWKept
import Derived.Test.YtijjopioamdahaaWShare
import Derived.Test.YtijjopioamdahaaWN
import Derived.Test.YtijjopioamdahaaWEqStruct
import Derived.Test.YtijjopioamdahaaWGuard
import Derived.Test.YtijjopioamdahaaWNEv
import Derived.Test.YtijjopioamdahaaWMore
import Derived.Test.YtijjopioamdahaaX1
import Derived.Test.YtijjopioamdahaaDgA
import Derived.Test.YtijjopioamdahaaDgB
import Derived.Test.YtijjopioamdahaaDgC
import Derived.Test.YtijjopioamdahaaDgD
import Derived.Test.YtijjopioamdahaaDgE
import Derived.Test.YtijjopioamdahaaDgF
import Derived.Test.YtijjopioamdahaaDgG
import Derived.Test.YtijjopioamdahaaDgH
import Derived.Test.YtijjopioamdahaaDcB
import Derived.Lib.SlBytesConst
import Derived.DataShut
import Derived.Deep.RegionLawGrows
import Derived.Deep.Upon
import Derived.Deep.MidRow
namespace Go.Proofs.Ytijjopioamdahaa.D
open Go.RowKit Go.Proofs.Ytijjopioamdahaa.X Go.Proofs.YtijjopioamdahaaW.PrintWords Go.Proofs.YtijjopioamdahaaW.PrintLast Go.Proofs.YtijjopioamdahaaW.PrintMore
attribute [local go_sem] max2_int min2_int max_two min_two max_three min_three max_four min_four   -- for this text's walks alone
set_option linter.unusedVariables false
set_option linter.unusedSimpArgs false
theorem abc_is : shaF [97, 98, 99] = [186, 120, 22, 191, 143, 1, 207, 234, 65, 65, 64, 222, 93, 174, 34, 35, 176, 3, 97, 163, 150, 23, 122, 156, 180, 16, 255, 97, 242, 0, 21, 173] := by kernel_rfl
theorem abc_size : (nameF [97, 98, 99]).size = 64 := by
  unfold nameF
  rw [abc_is]
  kernel_rfl
theorem abc_head : ((nameF [97, 98, 99]).extract 0 8).toList = [98, 97, 55, 56, 49, 54, 98, 102] := by
  unfold nameF
  rw [abc_is]
  kernel_rfl
theorem abc_tail : ((nameF [97, 98, 99]).extract 56 64).toList = [102, 50, 48, 48, 49, 53, 97, 100] := by
  unfold nameF
  rw [abc_is]
  kernel_rfl
theorem nine_is : digest_Crc.f 100 [49, 50, 51, 52, 53, 54, 55, 56, 57] = some 3421780262 := by kernel_rfl
theorem C_lit {W : World} (l : List Int) (fr : Nat × Nat) (hl : l.length ≤ 9223372036854775807) : Kd.C (Kd.int .u8) (W.alloc (.cells (u8s l) 5 fr)) (some ⟨W.heap.size, 0, none⟩) l.length l := by
  refine Kd.C_of_reads (enc := Value.int .u8) (d := (0 : Int)) (h1 := fun _ => rfl) ⟨rfl, hl, fun _ => ⟨_, rfl, fun j hj => ?_⟩⟩
  have h1 : (W.alloc (.cells (u8s l) 5 fr)).cell? ⟨W.heap.size, j, none⟩ = some (.int .u8 (rd l (j : Int))) := by
    rw [← u8s_get l j hj]
    exact cell_of_row _ _ j (u8s l) 5 fr (blk_new W _)
  rw [show (⟨W.heap.size, 0, none⟩ : Addr).add j = ⟨W.heap.size, j, none⟩ from by cases j <;> simp [Addr.add]]
  rw [h1]
  unfold rd
  rw [Int.toNat_natCast]
set_option maxHeartbeats 4000000 in
set_option maxRecDepth 100000 in
theorem lives_calls (w : World) : Calls Try.prog 12 #[] w fun e w' => e = .returned (.bool true) ∧ Below w.heap.size w w' := by
  obtain ⟨nm, hnm⟩ : ∃ nm, nm = nameF [97, 98, 99] := ⟨_, rfl⟩
  have HN := Aside0.mk hnm
  have h1 : ((nm.size : Int) == 64) = true := by rw [hnm, abc_size]; rfl
  have h2 : ((nm.extract 0 8).toList == [98, 97, 55, 56, 49, 54, 98, 102]) = true := by rw [hnm, abc_head]; rfl
  have h3 : ((nm.extract 56 64).toList == [102, 50, 48, 48, 49, 53, 97, 100]) = true := by rw [hnm, abc_tail]; rfl
  have hs : nm.size = 64 := by rw [hnm, abc_size]
  have kc := fun (w : World) (C : Array Value) (n c : Nat) => Lib.run_convert_bytes_const (P := Try.prog) w 22 5 C n c Try.underlying22 Try.underlying5
  clear hnm
  go_enter Try.func12, Try.ntmps12
  go_wp2_with (first | (go_at_call 15; refine (name_calls (some ⟨w.heap.size, 0, none⟩) 3 [97, 98, 99] _ (C_lit [97, 98, 99] (3, 4) (by decide)) (by decide) (by decide) (by decide)).mono ?_; rw [← HN.out]; rintro e w1 ⟨rfl, hb⟩; have HB1 := Aside0.mk (below_step (below_alloc (Below.refl _ _) _) hb); clear hb) | (go_at_call 10; refine (digest_Crc.calls 100 (some ⟨w1.heap.size, 0, none⟩) 9 [49, 50, 51, 52, 53, 54, 55, 56, 57] _ _ (C_lit [49, 50, 51, 52, 53, 54, 55, 56, 57] (9, 10) (by decide)) (by decide) nine_is).mono ?_; rintro e w2 ⟨rfl, ⟨n2, rfl⟩⟩))
  go_ret
  exact ⟨rfl, pw_below_drewN (below_alloc HB1.out _) _⟩
theorem take_le (l : List Int) (m : Nat) : (l.take m).length = min m l.length := List.length_take
def cutL (l : List Int) : List Int := l.take 2000
theorem cutL_len (l : List Int) : (cutL l).length ≤ 2000 ∧ (cutL l).length ≤ l.length := by
  unfold cutL
  rw [List.length_take]
  omega
theorem cut22 (A : Option Addr) (c n m : Nat) (hm : m ≤ n) (hc : n ≤ c) : ∀ W : World, (Instr.slice 22 (.slice A n c) none (some (.int .i64 (m : Int))) none).run Try.prog W = .ok (.slice A m c) W := by
  obtain ⟨i, hi, _⟩ := info_parts info5
  intro W
  have h := cut_to (P := Try.prog) 22 5 .i64 Try.underlying22 hi A n c (m : Int) (by omega) (by omega) hc W
  rw [Int.toNat_natCast] at h
  exact h
set_option maxHeartbeats 4000000 in
theorem cut_calls (A : Option Addr) (c : Nat) (l : List Int) (w : World) (hc : l.length ≤ c) : Calls Try.prog 9 #[.slice A l.length c] w fun e w' => e = .returned (.slice A (cutL l).length c) ∧ w' = w := by
  have hlen : (cutL l).length = min 2000 l.length := List.length_take
  rcases Nat.lt_or_ge 2000 l.length with h | h
  · have hcut := cut22 A c l.length 2000 (by omega) hc
    have hm : ((2000 : Int) < (l.length : Int)) := by omega
    have e : (cutL l).length = 2000 := by omega
    rw [e]
    clear hlen e
    go_enter Try.func9, Try.ntmps9
    go_wp2
    go_ret
    exact ⟨rfl, rfl⟩
  · have hcut := cut22 A c l.length l.length (by omega) hc
    have hm : ¬ ((2000 : Int) < (l.length : Int)) := by omega
    have e : (cutL l).length = l.length := by omega
    rw [e]
    clear hlen e
    go_enter Try.func9, Try.ntmps9
    go_wp2
    go_ret
    exact ⟨rfl, rfl⟩
theorem C_cut {w : World} {A : Option Addr} {l : List Int} (h : Kd.C (Kd.int .u8) w A l.length l) : Kd.C (Kd.int .u8) w A (cutL l).length (cutL l) := by
  rcases Nat.lt_or_ge l.length 2000 with h1 | h1
  · rw [show cutL l = l from List.take_of_length_le (by omega)]; exact h
  · exact Kd.C_take h h1
theorem okB_wf {l : List Int} (h : ∀ y ∈ l, (Lit.int .u8 y).wf = true) : C.okB l := fun y hy => by
  have := (Lit.wf_int_iff .u8 y).1 (h y hy)
  simpa [IntKind.min, IntKind.max, IntKind.signed, IntKind.bits] using this
theorem okB_cut {l : List Int} (h : C.okB l) : C.okB (cutL l) := fun y hy => h y (List.mem_of_mem_take hy)
set_option maxHeartbeats 4000000 in
set_option maxRecDepth 100000 in
theorem crcs_calls (A : Option Addr) (c : Nat) (l : List Int) (w : World) (hr : Kd.C (Kd.int .u8) w A l.length l) (hc : l.length ≤ c) (h8 : ∀ y ∈ l, (Lit.int .u8 y).wf = true) :
    Calls Try.prog 3 #[.slice A l.length c] w fun e w' => e = .returned (.bool true) ∧ Below w.heap.size w w' := by
  have HC := Aside0.mk hc
  have HCR := Aside0.mk (C_cut hr)
  have HCC := Aside0.mk (show (cutL l).length ≤ c by have := (cutL_len l).2; omega)
  have H1 := Aside0.mk (C.crc_is 30000 (cutL l) (okB_cut (okB_wf h8)) (by have := (cutL_len l).1; omega) (by have := (cutL_len l).1; omega))
  have H2 := Aside0.mk (C.ref_is 30000 (cutL l) (okB_cut (okB_wf h8)) (by have := (cutL_len l).1; omega) (by have := (cutL_len l).1; omega))
  generalize (4294967295 - ((C.regN 4294967295 (C.byts (cutL l)) : Nat) : Int)) = r at H1 H2
  clear hr hc h8
  go_enter Try.func3, Try.ntmps3
  go_wp2_with (first | (go_at_call 9; refine (cut_calls A c l _ HC.out).mono ?_; rintro e w' ⟨rfl, rfl⟩; (generalize hb : cutL l = b at HCR HCC H1 H2 ⊢); clear hb) | (go_at_call 10; refine (digest_Crc.calls 30000 A c b r _ HCR.out HCC.out H1.out).mono ?_; rintro e w1 ⟨rfl, ⟨n1, rfl⟩⟩) | (go_at_call 11; refine (brazierref02_Crc.calls 30000 A c b r _ (Kd.C_drewN HCR.out _) HCC.out H2.out).mono ?_; rintro e w2 ⟨rfl, ⟨n2, rfl⟩⟩) | (go_at_call 12; refine (lives_calls _).mono ?_; rintro e w3 ⟨rfl, hb⟩; have HB := Aside0.mk hb; clear hb))
  go_ret
  exact ⟨rfl, below_step (pw_below_drewN (Below.refl _ _) _) HB.out⟩

end Go.Proofs.Ytijjopioamdahaa.D
