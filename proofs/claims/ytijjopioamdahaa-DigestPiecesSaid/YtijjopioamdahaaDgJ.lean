/- The CRC of bytes in two pieces: the law's walk. -/
import Derived.Test.YtijjopioamdahaaProg
import Derived.Below
import Derived.Deep.Draws
import Derived.Deep.AppendLies
import Derived.Maps.AppendAt
import Derived.OwnWalk
import Derived.Laws.BytesArg
import Derived.Laws.MakeOwn
import Derived.Laws.OwnMore
import Derived.Deep.OwnRows
import Derived.Tactics
import Derived.Lib.ConvBytes
import Derived.Laws.Slices
import Derived.WalkKit
import Derived.KernelRfl
import Derived.RowKit3
import Derived.Deep.LoopGhost
import Derived.Deep.QuietTactic
import Derived.BigQuiet
import Derived.WideLaws
import Derived.Deep.DeepCutAuto
import Derived.Deep.CutBlock
import Derived.Deep.RegionHeld3
import Derived.Laws.Rows
import Derived.Lib.AppendStr
import Derived.ArgAppend
import Derived.Laws.IdiomCopy
import Derived.OrdersHeld
import Derived.Laws.BitsLemmas
import Derived.RowKit
import Derived.Test.YtijjopioamdahaaWWords
import Derived.Test.YtijjopioamdahaaWLast
import Derived.Test.YtijjopioamdahaaWTab
import Derived.Test.YtijjopioamdahaaWQPut
import Derived.Test.YtijjopioamdahaaWApart
import Derived.Test.YtijjopioamdahaaWArr
import Derived.Test.YtijjopioamdahaaWZeros
import Derived.Test.YtijjopioamdahaaWFoot
import Derived.Test.YtijjopioamdahaaWKept
import Derived.Test.YtijjopioamdahaaWShare
import Derived.Test.YtijjopioamdahaaWN
import Derived.Test.YtijjopioamdahaaWEqStruct
import Derived.Test.YtijjopioamdahaaWGuard
import Derived.Test.YtijjopioamdahaaWNEv
import Derived.Test.YtijjopioamdahaaWMore
import Derived.Test.YtijjopioamdahaaX1
import Derived.Test.YtijjopioamdahaaDgA
import Derived.Test.YtijjopioamdahaaDgB
import Derived.Test.YtijjopioamdahaaDgC
import Derived.Test.YtijjopioamdahaaDgD
import Derived.Test.YtijjopioamdahaaDgE
import Derived.Test.YtijjopioamdahaaDgF
import Derived.Test.YtijjopioamdahaaDgG
import Derived.Test.YtijjopioamdahaaDgH
import Derived.Test.YtijjopioamdahaaDgI
import Derived.DataShut
import Derived.Deep.RegionLawGrows
import Derived.Deep.Upon
import Derived.Deep.MidRow
namespace Go.Proofs.Ytijjopioamdahaa.D
open Go.RowKit Go.Proofs.Ytijjopioamdahaa.X Go.Proofs.YtijjopioamdahaaW.PrintWords Go.Proofs.YtijjopioamdahaaW.PrintLast Go.Proofs.YtijjopioamdahaaW.PrintMore
attribute [local go_sem] max2_int min2_int max_two min_two max_three min_three max_four min_four   -- for this text's walks alone
set_option linter.unusedVariables false
set_option linter.unusedSimpArgs false
theorem cut_calls2 (A : Option Addr) (c : Nat) (l : List Int) (w : World) (hc : l.length ≤ c) : Calls Try.prog 9 #[.slice A l.length c] w fun e w' => e = .returned (.slice A (cutL l).length c) ∧ w = w' := (cut_calls A c l w hc).mono fun _ _ h => ⟨h.1, h.2.symm⟩
theorem toNat_sub (n : Nat) (h : n ≤ 4294967295) : 4294967295 - (4294967295 - (n : Int)).toNat = n := by omega
theorem regs_bd (r : Nat) (l : List Int) (h : C.okB l) (hr : r < 4294967296) : (C.regN r (C.byts l)) ≤ 4294967295 := by
  have := C.regN_lt r (C.byts l) hr (C.byts_lt h)
  omega
theorem okB_app {a b : List Int} (h : C.okB a) (h' : C.okB b) : C.okB (a ++ b) := fun x hx => (List.mem_append.1 hx).elim (h x) (h' x)
/-- What the law's calls answer: the CRC of bytes in two pieces is that of all. -/
theorem more_plain (a b : List Int) (s : Int) (hs : 0 ≤ s ∧ s ≤ 4294967295) (ha : C.okB a) (hb : C.okB b) (la : a.length ≤ 2000) (lb : b.length ≤ 2000) :
    ∃ r1 r3 r4 r6, digest_Crc.f 60000 a = some r1 ∧ digest_More.f 60000 r1 b = some r3 ∧ digest_Crc.f 60000 (a ++ b) = some r3 ∧ digest_More.f 60000 s a = some r4 ∧ digest_More.f 60000 r4 b = some r6 ∧ digest_More.f 60000 s (a ++ b) = some r6 ∧ digest_More.f 60000 s [] = some s := by
  have lab : (a ++ b).length = a.length + b.length := List.length_append
  have hab := okB_app ha hb
  have q1 := regs_bd 4294967295 a ha (by decide)
  have q2 := regs_bd (4294967295 - s.toNat) a ha (by omega)
  have e : ∀ r, C.regN r (C.byts (a ++ b)) = C.regN (C.regN r (C.byts a)) (C.byts b) := fun r => by rw [← C.regN_append, C.byts, C.byts, C.byts, List.map_append]
  refine ⟨_, _, _, _, C.crc_is 60000 a ha (by omega) (by omega), C.more_is 60000 _ b (by omega) hb (by omega) (by omega), ?_, C.more_is 60000 s a hs ha (by omega) (by omega), C.more_is 60000 _ b (by omega) hb (by omega) (by omega), ?_, ?_⟩
  · rw [C.crc_is 60000 _ hab (by omega) (by omega), e, toNat_sub _ q1]
  · rw [C.more_is 60000 s _ hs hab (by omega) (by omega), e, toNat_sub _ q2]
  · rw [C.more_is 60000 s [] hs (fun x hx => by cases hx) (by decide) (by decide)]
    show some (4294967295 - ((4294967295 - s.toNat : Nat) : Int)) = some s
    congr 1
    omega
theorem wfu32 {a : Int} (h : (Lit.int .u32 a).wf = true) : 0 ≤ a ∧ a ≤ 4294967295 := by
  have := (Lit.wf_int_iff .u32 a).1 h
  simpa [IntKind.min, IntKind.max, IntKind.signed, IntKind.bits] using this
set_option maxHeartbeats 8000000 in
set_option maxRecDepth 100000 in
theorem more_calls (A : Option Addr) (c : Nat) (l : List Int) (A1 : Option Addr) (c1 : Nat) (l1 : List Int) (s : Int) (w : World) (hr : Kd.C (Kd.int .u8) w A l.length l) (hc : l.length ≤ c) (hr1 : Kd.C (Kd.int .u8) w A1 l1.length l1) (hc1 : l1.length ≤ c1)
    (h8 : ∀ y ∈ l, (Lit.int .u8 y).wf = true) (h81 : ∀ y ∈ l1, (Lit.int .u8 y).wf = true) (hs : (Lit.int .u32 s).wf = true) :
    Calls Try.prog 5 #[.slice A l.length c, .slice A1 l1.length c1, .int .u32 s] w fun e w' => e = .returned (.bool true) ∧ Below w.heap.size w w' := by
  have HC := Aside0.mk hc
  have HC1 := Aside0.mk hc1
  have HCR := Aside0.mk (C_cut hr)
  have HCR1 := Aside0.mk (C_cut hr1)
  have HCC := Aside0.mk (show (cutL l).length ≤ c by have := (cutL_len l).2; omega)
  have HCC1 := Aside0.mk (show (cutL l1).length ≤ c1 by have := (cutL_len l1).2; omega)
  have HLA := Aside0.mk (cutL_len l).1
  have HLB := Aside0.mk (cutL_len l1).1
  obtain ⟨r1, r3, r4, r6, e1, e2, e3, e4, e5, e6, e7⟩ := more_plain (cutL l) (cutL l1) s (wfu32 hs) (okB_cut (okB_wf h8)) (okB_cut (okB_wf h81)) (cutL_len l).1 (cutL_len l1).1
  have E1 := Aside0.mk e1
  have E2 := Aside0.mk e2
  have E3 := Aside0.mk e3
  have E4 := Aside0.mk e4
  have E5 := Aside0.mk e5
  have E6 := Aside0.mk e6
  have E7 := Aside0.mk e7
  clear hr hc hr1 hc1 h8 h81 hs e1 e2 e3 e4 e5 e6 e7
  generalize ha : cutL l = a at HCR HCC HLA E1 E2 E3 E4 E5 E6
  generalize hb : cutL l1 = b at HCR1 HCC1 HLB E1 E2 E3 E4 E5 E6
  have HA := Aside0.mk ha
  have HB_ := Aside0.mk hb
  clear ha hb
  go_enter Try.func5, Try.ntmps5
  go_wp2_with (first | (go_at_call 9; with_reducible refine (cut_calls2 A c l _ HC.out).mono ?_; rintro e w' ⟨rfl, rfl⟩; rw [HA.out]) | (go_at_call 9; with_reducible refine (cut_calls2 A1 c1 l1 _ HC1.out).mono ?_; rintro e w' ⟨rfl, rfl⟩; rw [HB_.out]) | ((with_reducible refine gate_dst (N := 12) rfl ?_); refine Kd.R_lit (Kd.int .u8) _ 5 ?hg (N := 12) ?hd (xs := ([] : List Int)) (inner := []) (ok := fun _ => True) (okp := fun _ => True) ?hr ?hp (fun _ hk => hk) trivial (Below.refl _ _) (Nat.le_refl _) (by simp) ?_; (case hd => rfl); (case hg => rfl); (case hr => first | (go_simp; done) | (go_simp; rfl)); (case hp => exact Reps.none _ _); intro v12 w1 ho hb hg_ hnew_; have HO := Aside0.mk ho; have HB1 := Aside0.mk hb; clear ho hb hg_ hnew_) | ((with_reducible refine gate_builtin (b := .append) (xs := #[.tmp 12, .tmp 13]) rfl ?_); at_builtin; refine Kd.R_append_row (Value.int .u8) (0 : Int) (h1 := fun _ => rfl) (w0 := w) w.heap.size rfl (.tmp 12) (.tmp 13) 22 5 (.int .u8 0) 1 rfl Try.underlying22 info5 rfl (by decide) v12 [] a A a.length c (fun _ => True) rfl rfl (fun _ _ => trivial) HO.out (Kd.C_below HCR.out HB1.out) HB1.out HB1.out.size (by have h_ := HLA.out; simp; omega) ?_; intro v14 w2 ho hb hg hat; have HO2 := Aside0.mk ho; have HB2 := Aside0.mk hb; clear ho hb hg hat) | ((with_reducible refine gate_builtin (b := .append) (xs := #[.tmp 14, .tmp 15]) rfl ?_); at_builtin; refine Kd.R_append_row (Value.int .u8) (0 : Int) (h1 := fun _ => rfl) (w0 := w) w.heap.size rfl (.tmp 14) (.tmp 15) 22 5 (.int .u8 0) 1 rfl Try.underlying22 info5 rfl (by decide) v14 a b A1 b.length c1 (fun _ => True) rfl rfl (fun _ _ => trivial) HO2.out (Kd.C_below HCR1.out HB2.out) HB2.out HB2.out.size (by have h_ := HLA.out; have h2_ := HLB.out; omega) ?_; intro v16 w3 ho hb hg hat; (generalize hab : a ++ b = ab at ho E3 E6); obtain ⟨A3, c3, rfl, hc3, hC3⟩ := Kd.R_reads ho; have HC3 : Aside0 (Kd.C (Kd.int .u8) w3 A3 ab.length ab) := ⟨hC3⟩; have HCC3 := Aside0.mk hc3; have HB3 := Aside0.mk hb; clear ho hb hg hat hc3 hC3 hab) | (go_at_call 10; with_reducible refine (digest_Crc.calls 60000 A c a r1 _ (Kd.C_below HCR.out HB3.out) HCC.out E1.out).mono ?_; rintro e w' ⟨rfl, ⟨n1, rfl⟩⟩) | (go_at_call 17; with_reducible refine (digest_More.calls 60000 r1 A1 c1 b r3 _ (Kd.C_drewN (Kd.C_below HCR1.out HB3.out) _) HCC1.out E2.out).mono ?_; rintro e w' ⟨rfl, ⟨n2, rfl⟩⟩) | (go_at_call 10; with_reducible refine (digest_Crc.calls 60000 A3 c3 ab r3 _ (Kd.C_drewN HC3.out _) HCC3.out E3.out).mono ?_; rintro e w' ⟨rfl, ⟨n3, rfl⟩⟩) | (go_at_call 17; with_reducible refine (digest_More.calls 60000 s A c a r4 _ (Kd.C_drewN (Kd.C_below HCR.out HB3.out) _) HCC.out E4.out).mono ?_; rintro e w' ⟨rfl, ⟨n4, rfl⟩⟩) | (go_at_call 17; with_reducible refine (digest_More.calls 60000 r4 A1 c1 b r6 _ (Kd.C_drewN (Kd.C_below HCR1.out HB3.out) _) HCC1.out E5.out).mono ?_; rintro e w' ⟨rfl, ⟨n5, rfl⟩⟩) | (go_at_call 17; with_reducible refine (digest_More.calls 60000 s A3 c3 ab r6 _ (Kd.C_drewN HC3.out _) HCC3.out E6.out).mono ?_; rintro e w' ⟨rfl, ⟨n6, rfl⟩⟩) | (go_at_call 17; refine calls_of_args (args' := #[.int .u32 s, .slice none ([] : List Int).length 0]) ?hz ?_; (case hz => rfl); refine (digest_More.calls 60000 s none 0 [] s _ (Kd.C_nil _ _) (Nat.le_refl _) E7.out).mono ?_; rintro e w' ⟨rfl, ⟨n7, rfl⟩⟩) | (go_at_call 12; with_reducible refine (lives_calls _).mono ?_; rintro e w4 ⟨rfl, hb⟩; have HB4 := Aside0.mk hb; clear hb))
  go_ret
  exact ⟨rfl, below_step (pw_below_drewN HB3.out _) HB4.out⟩

end Go.Proofs.Ytijjopioamdahaa.D
