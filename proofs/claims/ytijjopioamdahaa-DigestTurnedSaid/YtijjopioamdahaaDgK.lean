/- Bits that are turned within 32 bits change the CRC: the law's walk. -/
import Derived.Test.YtijjopioamdahaaProg
import Derived.Below
import Derived.Deep.Draws
import Derived.Deep.AppendLies
import Derived.Maps.AppendAt
import Derived.OwnWalk
import Derived.Laws.BytesArg
import Derived.Laws.MakeOwn
import Derived.Laws.OwnMore
import Derived.Deep.OwnRows
import Derived.Tactics
import Derived.Lib.ConvBytes
import Derived.Laws.Slices
import Derived.WalkKit
import Derived.KernelRfl
import Derived.RowKit3
import Derived.Deep.LoopGhost
import Derived.Deep.QuietTactic
import Derived.BigQuiet
import Derived.WideLaws
import Derived.Deep.DeepCutAuto
import Derived.Deep.CutBlock
import Derived.Deep.RegionHeld3
import Derived.Laws.Rows
import Derived.Lib.AppendStr
import Derived.ArgAppend
import Derived.Laws.IdiomCopy
import Derived.OrdersHeld
import Derived.Laws.BitsLemmas
import Derived.RowKit
import Derived.Test.YtijjopioamdahaaWWords
import Derived.Test.YtijjopioamdahaaWLast
import Derived.Test.YtijjopioamdahaaWTab
import Derived.Test.YtijjopioamdahaaWQPut
import Derived.Test.YtijjopioamdahaaWApart
import Derived.Test.YtijjopioamdahaaWArr
import Derived.Test.YtijjopioamdahaaWZeros
import Derived.Test.YtijjopioamdahaaWFoot
import Derived.Test.YtijjopioamdahaaWKept
import Derived.Test.YtijjopioamdahaaWShare
import Derived.Test.YtijjopioamdahaaWN
import Derived.Test.YtijjopioamdahaaWEqStruct
import Derived.Test.YtijjopioamdahaaWGuard
import Derived.Test.YtijjopioamdahaaWNEv
import Derived.Test.YtijjopioamdahaaWMore
import Derived.Test.YtijjopioamdahaaX1
import Derived.Test.YtijjopioamdahaaDgA
import Derived.Test.YtijjopioamdahaaDgB
import Derived.Test.YtijjopioamdahaaDgC
import Derived.Test.YtijjopioamdahaaDgD
import Derived.Test.YtijjopioamdahaaDgE
import Derived.Test.YtijjopioamdahaaDgF
import Derived.Test.YtijjopioamdahaaDgG
import Derived.Test.YtijjopioamdahaaDgH
import Derived.Test.YtijjopioamdahaaDgI
import Derived.Test.YtijjopioamdahaaDgJ
import Derived.DataShut
import Derived.Deep.RegionLawGrows
import Derived.Deep.Upon
import Derived.Deep.MidRow
namespace Go.Proofs.Ytijjopioamdahaa.D
open Go.RowKit Go.Proofs.Ytijjopioamdahaa.X Go.Proofs.YtijjopioamdahaaW.PrintWords Go.Proofs.YtijjopioamdahaaW.PrintLast Go.Proofs.YtijjopioamdahaaW.PrintMore
attribute [local go_sem] max2_int min2_int max_two min_two max_three min_three max_four min_four   -- for this text's walks alone
set_option linter.unusedVariables false
set_option linter.unusedSimpArgs false
theorem own_of_R2 {w : World} {base : Nat} {ok : Nat → Prop} {v : Value} {xs : List Int} (h : Kd.R (Kd.int .u8) 5 w base ok v xs) : w.ownsRow base 5 1 v xs.length (encs (Value.int .u8) xs) := Kd.own_of_R h
/-- What has been turned so far: m, laid s bits up. -/
def Turned (b cs : List Int) (s k m : Nat) : Prop := cs.length = b.length ∧ C.okB cs ∧ s + k ≤ 8 * b.length ∧ m < 2 ^ k ∧ C.numOf (C.byts cs) = C.numOf (C.byts b) ^^^ (m * 2 ^ s)
theorem turned_0 (b : List Int) (s : Nat) (h : C.okB b) (hs : s ≤ 8 * b.length) : Turned b b s 0 0 := ⟨rfl, h, by omega, by decide, by rw [Nat.zero_mul, Nat.xor_zero]⟩
theorem wfu64 {a : Int} (h : (Lit.int .u64 a).wf = true) : 0 ≤ a ∧ a ≤ 18446744073709551615 := by
  have := (Lit.wf_int_iff .u64 a).1 h
  simpa [IntKind.min, IntKind.max, IntKind.signed, IntKind.bits] using this
theorem turned_no {b cs : List Int} {s k m : Nat} (h : Turned b cs s k m) (hk : s + k < 8 * b.length) : Turned b cs s (k + 1) m :=
  ⟨h.1, h.2.1, by omega, Nat.lt_trans h.2.2.2.1 (Nat.pow_lt_pow_right (by decide) (by omega)), h.2.2.2.2⟩
theorem u8_xor (a b : Nat) (ha : a < 256) (hb : b < 256) : Go.bits .xor .u8 (a : Int) (b : Int) = ((a ^^^ b : Nat) : Int) := by
  have h : a ^^^ b < 2 ^ 8 := Nat.xor_lt_two_pow ha hb
  show IntKind.u8.wrap (((BitVec.ofInt 8 (a : Int) ^^^ BitVec.ofInt 8 (b : Int)).toNat : Nat) : Int) = _
  rw [BitVec.toNat_xor, BitVec.ofInt_natCast, BitVec.ofInt_natCast, BitVec.toNat_ofNat, BitVec.toNat_ofNat, IntKind.wrap_u8, Nat.mod_eq_of_lt (show a < 2 ^ 8 by omega), Nat.mod_eq_of_lt (show b < 2 ^ 8 by omega)]
  omega
theorem xor_ne {m k : Nat} (h : m < 2 ^ k) : m ^^^ 2 ^ k ≠ 0 := fun e => by
  have := C.xor_nil e
  omega
theorem turned_yes {b cs : List Int} {s k m : Nat} (h : Turned b cs s k m) (hk : s + k < 8 * b.length) {x : Int} (hx : x = rdOf (0 : Int) cs (((s + k) / 8 : Nat) : Int)) :
    Turned b (cs.set ((s + k) / 8) (Go.bits .xor .u8 x (2 ^ ((s + k) % 8) % 256))) s (k + 1) (m ^^^ 2 ^ k) ∧ (m ^^^ 2 ^ k == 0) = false := by
  obtain ⟨h1, h2, h3, h4, h5⟩ := h
  have hq : (s + k) / 8 < cs.length := by omega
  have hxe : x = cs[(s + k) / 8] := by
    rw [hx]
    unfold rdOf
    rw [Int.toNat_natCast, List.getD_eq_getElem?_getD, List.getElem?_eq_getElem hq]
    rfl
  have hx8 := h2 _ (List.getElem_mem hq)
  rw [← hxe] at hx8
  obtain ⟨n, rfl⟩ := Int.eq_ofNat_of_zero_le hx8.1
  have hp : (2 : Nat) ^ ((s + k) % 8) < 256 := by
    have : (2 : Nat) ^ ((s + k) % 8) < 2 ^ 8 := Nat.pow_lt_pow_right (by decide) (Nat.mod_lt _ (by decide))
    omega
  have hpi : ((2 : Int) ^ ((s + k) % 8) % 256) = ((2 ^ ((s + k) % 8) : Nat) : Int) := by
    rw [show (2 : Int) ^ ((s + k) % 8) = ((2 ^ ((s + k) % 8) : Nat) : Int) by rw [Int.natCast_pow]; rfl]
    exact Int.emod_eq_of_lt (Int.natCast_nonneg _) (Int.ofNat_lt.2 hp)
  have hv : Go.bits .xor .u8 (n : Int) (2 ^ ((s + k) % 8) % 256) = ((n ^^^ 2 ^ ((s + k) % 8) : Nat) : Int) := by rw [hpi, u8_xor n _ (by omega) hp]
  have hlt : n ^^^ 2 ^ ((s + k) % 8) < 256 := Nat.xor_lt_two_pow (n := 8) (by omega) hp
  have hpk : (2 : Nat) ^ (k + 1) = 2 * 2 ^ k := by rw [Nat.pow_succ]; omega
  refine ⟨⟨by rw [List.length_set]; exact h1, ?_, by omega, Nat.xor_lt_two_pow (by omega) (by omega), ?_⟩, by simpa using xor_ne h4⟩
  · intro y hy
    rcases List.mem_or_eq_of_mem_set hy with hy | rfl
    · exact h2 y hy
    · rw [hv]; omega
  · have hb := C.set_num (C.byts cs) (C.byts_lt h2) (s + k) (by rw [C.byts, List.length_map]; omega)
    have hg : (C.byts cs).getD ((s + k) / 8) 0 = n := by
      rw [List.getD_eq_getElem?_getD, C.byts, List.getElem?_map, List.getElem?_eq_getElem hq, ← hxe]
      rfl
    rw [hg] at hb
    have he : C.byts (cs.set ((s + k) / 8) (Go.bits .xor .u8 (n : Int) (2 ^ ((s + k) % 8) % 256))) = (C.byts cs).set ((s + k) / 8) (n ^^^ 2 ^ ((s + k) % 8)) := by
      rw [hv, C.byts, C.byts, List.map_set, Int.toNat_natCast]
    rw [he, hb, h5, Nat.xor_assoc]
    congr 1
    rw [Nat.pow_add, Nat.mul_comm (2 ^ s), ← Nat.shiftLeft_eq, ← Nat.shiftLeft_eq, ← Nat.shiftLeft_eq, Nat.shiftLeft_xor_distrib]
theorem own_base2 {w : World} {base : Nat} {g n cap : Nat} {xs : List Int} (h : Kd.R (Kd.int .u8) 5 w base (fun _ => True) (.slice (some ⟨g, 0, none⟩) n cap) xs) : base ≤ g := own_base (own_of_R2 h) g rfl
theorem turned_end {b cs : List Int} {s k m : Nat} (h : Turned b cs s k m) (hb : C.okB b) (hk : k ≤ 32) (hl : b.length ≤ 2000) :
    ∃ r1 r0, digest_Crc.f 60000 cs = some r1 ∧ digest_Crc.f 60000 b = some r0 ∧ (r1 == r0) = (m == 0) := by
  obtain ⟨h1, h2, h3, h4, h5⟩ := h
  refine ⟨_, _, C.crc_is 60000 cs h2 (by omega) (by omega), C.crc_is 60000 b hb (by omega) (by omega), ?_⟩
  have ht := C.turned_reg (C.byts b) (C.byts cs) (C.byts_lt hb) (C.byts_lt h2) (by rw [C.byts, C.byts, List.length_map, List.length_map, h1]) 4294967295 m s (Nat.lt_of_lt_of_le h4 (Nat.pow_le_pow_right (by decide) hk)) (by rw [C.byts, List.length_map]; omega) h5
  have hi : ((4294967295 : Int) - ((C.regN 4294967295 (C.byts cs) : Nat) : Int) = 4294967295 - ((C.regN 4294967295 (C.byts b) : Nat) : Int)) ↔ m = 0 := by
    rw [← ht]
    omega
  rw [Bool.eq_iff_iff, beq_iff_eq, beq_iff_eq]
  exact hi
set_option maxHeartbeats 8000000 in
set_option maxRecDepth 100000 in
theorem turned_calls (A : Option Addr) (c : Nat) (l : List Int) (a p : Int) (w : World) (hr : Kd.C (Kd.int .u8) w A l.length l) (hc : l.length ≤ c)
    (h8 : ∀ y ∈ l, (Lit.int .u8 y).wf = true) (ha : (Lit.int .u64 a).wf = true) (hp : (Lit.int .u32 p).wf = true) :
    Calls Try.prog 7 #[.slice A l.length c, .int .u64 a, .int .u32 p] w fun e w' => e = .returned (.bool true) ∧ Below w.heap.size w w' := by
  have HC := Aside0.mk hc
  have HCR := Aside0.mk (C_cut hr)
  have HCC := Aside0.mk (show (cutL l).length ≤ c by have := (cutL_len l).2; omega)
  have HLA := Aside0.mk (cutL_len l).1
  have H8 := Aside0.mk (okB_cut (okB_wf h8))
  obtain ⟨a0, a1⟩ := wfu64 ha
  obtain ⟨p0, p1⟩ := wfu32 hp
  clear hr hc h8 ha hp
  generalize hb : cutL l = b at HCR HCC HLA H8
  have HB_ := Aside0.mk hb
  clear hb
  rcases Nat.eq_zero_or_pos b.length with h0 | h0
  · have hz : ((b.length : Int) == 0) = true := by rw [h0]; rfl
    clear h0
    go_enter Try.func7, Try.ntmps7
    go_wp2_with (first | (go_at_call 9; with_reducible refine (cut_calls2 A c l _ HC.out).mono ?_; rintro e w' ⟨rfl, rfl⟩; rw [HB_.out]) | (go_at_call 12; with_reducible refine (lives_calls _).mono ?_; rintro e w4 ⟨rfl, hb⟩; have HB4 := Aside0.mk hb; clear hb))
    go_ret
    exact ⟨rfl, HB4.out⟩
  · have hz : ((b.length : Int) == 0) = false := by
      have : (b.length : Int) ≠ 0 := by omega
      simpa using this
    have hbl : (b.length : Int) ≤ 2000 := by have := HLA.out; omega
    have hn0 : 0 < 8 * (b.length : Int) := by omega
    obtain ⟨s, hs⟩ : ∃ s : Nat, a % (8 * (b.length : Int)) = (s : Int) := ⟨(a % (8 * (b.length : Int))).toNat, by have := Int.emod_nonneg a (show 8 * (b.length : Int) ≠ 0 by omega); omega⟩
    have hs1 : (s : Int) < 8 * (b.length : Int) := by rw [← hs]; exact Int.emod_lt_of_pos a hn0
    have H0 := Aside0.mk h0
    clear h0
    go_enter Try.func7, Try.ntmps7
    go_wp2_with (first | (go_at_call 9; with_reducible refine (cut_calls2 A c l _ HC.out).mono ?_; rintro e w' ⟨rfl, rfl⟩; rw [HB_.out]) | ((with_reducible refine gate_dst (N := 18) rfl ?_); refine Kd.R_lit (Kd.int .u8) _ 5 ?hg (N := 18) ?hd (xs := ([] : List Int)) (inner := []) (ok := fun _ => True) (okp := fun _ => True) ?hr ?hp (fun _ hk => hk) trivial (Below.refl _ _) (Nat.le_refl _) (by simp) ?_; (case hd => rfl); (case hg => rfl); (case hr => first | (go_simp; done) | (go_simp; rfl)); (case hp => exact Reps.none _ _); intro v12 w1 ho hb hg_ hnew_; have HO := Aside0.mk ho; have HB1 := Aside0.mk hb; clear ho hb hg_ hnew_) | ((with_reducible refine gate_builtin (b := .append) (xs := #[.tmp 18, .tmp 19]) rfl ?_); at_builtin; refine Kd.R_append_row (Value.int .u8) (0 : Int) (h1 := fun _ => rfl) (w0 := w) w.heap.size rfl (.tmp 18) (.tmp 19) 22 5 (.int .u8 0) 1 rfl Try.underlying22 info5 rfl (by decide) v12 [] b A b.length c (fun _ => True) rfl rfl (fun _ _ => trivial) HO.out (Kd.C_below HCR.out HB1.out) HB1.out HB1.out.size (by have h_ := HLA.out; simp; omega) ?_; intro v14 w2 ho hb hg hat; have HO2 : Aside0 (Kd.R (Kd.int .u8) 5 w2 w.heap.size (fun _ => True) v14 b) := ⟨ho⟩; have HB2 := Aside0.mk hb; clear ho hb hg hat))
    have HO3 := own_of_R2 HO2.out
    rcases HO3.2 with ⟨_, hn⟩ | ⟨g, cap, cur, rfl, hgb, _⟩
    · exact absurd hn (Nat.ne_of_gt H0.out)
    have HGB := Aside0.mk hgb
    clear HO3 hgb HO HB1
    go_loopw [9, 10] (fun t i wr => ∃ (k m : Nat) (cs : List Int), k ≤ 32 ∧ i = .int .u64 k ∧ t = .bool (!(m == 0)) ∧ Aside0 (Kd.R (Kd.int .u8) 5 wr w.heap.size (fun _ => True) (.slice (some ⟨g, 0, none⟩) b.length cap) cs) ∧ Aside0 (Turned b cs s k m) ∧ Aside0 (Below w.heap.size w wr)) (fun _ i _ => 32 - (intOf i).toNat)
    case atStart => exact ⟨0, 0, b, by decide, rfl, rfl, HO2, ⟨turned_0 b s H8.out (by omega)⟩, HB2⟩
    case round =>
      clear HO2 HB2
      obtain ⟨k, m, cs, hk, rfl, rfl, HR, HT, HB⟩ := hrel
      by_cases hi : k < 32
      · by_cases hkn : s + k < 8 * b.length
        · have t1 : decide ((k : Int) < 32) = true := decide_eq_true (by omega)
          have t2 : decide ((s : Int) + (k : Int) < 8 * (b.length : Int)) = true := decide_eq_true (by omega)
          have hq : (s + k) / 8 < b.length := by omega
          obtain ⟨hcell, hfro⟩ := Kd.R_celln (d := (0 : Int)) HR.out (((s + k) / 8 : Nat) : Int) (by omega) (by omega)
          rw [Int.toNat_natCast] at hcell hfro
          obtain ⟨x, hx⟩ : ∃ x, x = rdOf (0 : Int) cs (((s + k) / 8 : Nat) : Int) := ⟨_, rfl⟩
          rw [← hx] at hcell
          have HX := Aside0.mk hx
          clear hx
          rcases Bool.eq_false_or_eq_true (Go.bits .and .u32 (p / 2 ^ k) 1 == 1) with hbit | hbit
          · go_wp2
            go_roundw
            case rel =>
              have hp := Kd.R_putn HR.out (((s + k) / 8 : Nat) : Int) (Go.bits .xor .u8 x (2 ^ ((s + k) % 8) % 256))
              rw [Int.toNat_natCast] at hp
              obtain ⟨hT, hm⟩ := turned_yes HT.out hkn HX.out
              exact ⟨k + 1, m ^^^ 2 ^ k, _, by omega, by go_num, by rw [hm]; rfl, ⟨hp⟩, ⟨hT⟩, ⟨below_set HB.out (own_base2 HR.out)⟩⟩
            case measure => simp [intOf]; omega
          · go_wp2
            go_roundw
            case rel =>
              exact ⟨k + 1, m, cs, by omega, by go_num, rfl, HR, ⟨turned_no HT.out hkn⟩, HB⟩
            case measure => simp [intOf]; omega
        · have t1 : decide ((k : Int) < 32) = true := decide_eq_true (by omega)
          have t2 : decide ((s : Int) + (k : Int) < 8 * (b.length : Int)) = false := decide_eq_false (by omega)
          obtain ⟨r1, r0, e1, e0, er⟩ := turned_end HT.out H8.out hk HLA.out
          obtain ⟨hcl, hcc, hCC⟩ := Kd.R_reads' HR.out
          have E1 := Aside0.mk e1
          have E0 := Aside0.mk e0
          have HCS := Aside0.mk hCC
          have HCL := Aside0.mk hcl
          have HCP := Aside0.mk hcc
          have ER := Aside0.mk er
          clear e1 e0 hcl hcc hCC er
          cases hm : (m == 0)
          all_goals
            have er := ER.out
            rw [hm] at er
            go_wp2_with (first | (go_at_call 10; refine calls_of_args (args' := #[.slice (some ⟨g, 0, none⟩) cs.length cap]) ?hz ?_; (case hz => rw [HCL.out]); with_reducible refine (digest_Crc.calls 60000 (some ⟨g, 0, none⟩) cap cs r1 _ (Kd.C_drewN HCS.out _) (by rw [← HCL.out]; exact HCP.out) E1.out).mono ?_; rintro e w' ⟨rfl, ⟨n1, rfl⟩⟩) | (go_at_call 10; refine calls_of_args (args' := #[.slice (some ⟨g, 0, none⟩) cs.length cap]) ?hz ?_; (case hz => rw [HCL.out]); with_reducible refine (digest_Crc.calls 60000 (some ⟨g, 0, none⟩) cap cs r1 _ HCS.out (by rw [← HCL.out]; exact HCP.out) E1.out).mono ?_; rintro e w' ⟨rfl, ⟨n1, rfl⟩⟩) | (go_at_call 10; with_reducible refine (digest_Crc.calls 60000 A c b r0 _ (Kd.C_drewN (Kd.C_below HCR.out HB.out) _) HCC.out E0.out).mono ?_; rintro e w' ⟨rfl, ⟨n2, rfl⟩⟩) | (go_at_call 12; with_reducible refine (lives_calls _).mono ?_; rintro e w4 ⟨rfl, hb⟩; have HB4 := Aside0.mk hb; clear hb))
            go_ret
            exact ⟨rfl, below_step (pw_below_drewN HB.out _) HB4.out⟩
      · have t1 : decide ((k : Int) < 32) = false := decide_eq_false (by omega)
        obtain ⟨r1, r0, e1, e0, er⟩ := turned_end HT.out H8.out hk HLA.out
        obtain ⟨hcl, hcc, hCC⟩ := Kd.R_reads' HR.out
        have E1 := Aside0.mk e1
        have E0 := Aside0.mk e0
        have HCS := Aside0.mk hCC
        have HCL := Aside0.mk hcl
        have HCP := Aside0.mk hcc
        have ER := Aside0.mk er
        clear e1 e0 hcl hcc hCC er
        cases hm : (m == 0)
        all_goals
          have er := ER.out
          rw [hm] at er
          go_wp2_with (first | (go_at_call 10; refine calls_of_args (args' := #[.slice (some ⟨g, 0, none⟩) cs.length cap]) ?hz ?_; (case hz => rw [HCL.out]); with_reducible refine (digest_Crc.calls 60000 (some ⟨g, 0, none⟩) cap cs r1 _ (Kd.C_drewN HCS.out _) (by rw [← HCL.out]; exact HCP.out) E1.out).mono ?_; rintro e w' ⟨rfl, ⟨n1, rfl⟩⟩) | (go_at_call 10; refine calls_of_args (args' := #[.slice (some ⟨g, 0, none⟩) cs.length cap]) ?hz ?_; (case hz => rw [HCL.out]); with_reducible refine (digest_Crc.calls 60000 (some ⟨g, 0, none⟩) cap cs r1 _ HCS.out (by rw [← HCL.out]; exact HCP.out) E1.out).mono ?_; rintro e w' ⟨rfl, ⟨n1, rfl⟩⟩) | (go_at_call 10; with_reducible refine (digest_Crc.calls 60000 A c b r0 _ (Kd.C_drewN (Kd.C_below HCR.out HB.out) _) HCC.out E0.out).mono ?_; rintro e w' ⟨rfl, ⟨n2, rfl⟩⟩) | (go_at_call 12; with_reducible refine (lives_calls _).mono ?_; rintro e w4 ⟨rfl, hb⟩; have HB4 := Aside0.mk hb; clear hb))
          go_ret
          exact ⟨rfl, below_step (pw_below_drewN HB.out _) HB4.out⟩

end Go.Proofs.Ytijjopioamdahaa.D
