/- SHA-256 as the document tells it: the walk; at most 10^6 bytes. -/
import Derived.Test.YtijjopioamdahaaProg
import Derived.Below
import Derived.Deep.Draws
import Derived.Deep.AppendLies
import Derived.Maps.AppendAt
import Derived.OwnWalk
import Derived.Laws.BytesArg
import Derived.Laws.MakeOwn
import Derived.Laws.OwnMore
import Derived.Deep.OwnRows
import Derived.Tactics
import Derived.Lib.ConvBytes
import Derived.Laws.Slices
import Derived.WalkKit
import Derived.KernelRfl
import Derived.RowKit3
import Derived.Deep.LoopGhost
import Derived.Deep.QuietTactic
import Derived.BigQuiet
import Derived.WideLaws
import Derived.Deep.DeepCutAuto
import Derived.Deep.CutBlock
import Derived.Deep.RegionHeld3
import Derived.Laws.Rows
import Derived.Lib.AppendStr
import Derived.ArgAppend
import Derived.Laws.IdiomCopy
import Derived.OrdersHeld
import Derived.Laws.BitsLemmas
import Derived.RowKit
import Derived.Test.YtijjopioamdahaaWWords
import Derived.Test.YtijjopioamdahaaWLast
import Derived.Test.YtijjopioamdahaaWTab
import Derived.Test.YtijjopioamdahaaWQPut
import Derived.Test.YtijjopioamdahaaWApart
import Derived.Test.YtijjopioamdahaaWArr
import Derived.Test.YtijjopioamdahaaWZeros
import Derived.Test.YtijjopioamdahaaWFoot
import Derived.Test.YtijjopioamdahaaWKept
import Derived.Test.YtijjopioamdahaaWShare
import Derived.Test.YtijjopioamdahaaWN
import Derived.Test.YtijjopioamdahaaWEqStruct
import Derived.Test.YtijjopioamdahaaWGuard
import Derived.Test.YtijjopioamdahaaWNEv
import Derived.Test.YtijjopioamdahaaWMore
import Derived.Test.YtijjopioamdahaaX1
import Derived.Test.YtijjopioamdahaaDgA
import Derived.Test.YtijjopioamdahaaDgB
import Derived.Test.YtijjopioamdahaaDgC
import Derived.Test.YtijjopioamdahaaDgD
import Derived.Test.YtijjopioamdahaaDgE
import Derived.Test.YtijjopioamdahaaDgF
import Derived.Test.YtijjopioamdahaaDgG
import Derived.Test.YtijjopioamdahaaDgH
import Derived.Test.YtijjopioamdahaaDgI
import Derived.Test.YtijjopioamdahaaDgJ
import Derived.Test.YtijjopioamdahaaDgL
import Derived.DataShut
import Derived.Deep.RegionLawGrows
import Derived.Deep.Upon
import Derived.Deep.MidRow
namespace Go.Proofs.Ytijjopioamdahaa.D
open Go.RowKit Go.Proofs.Ytijjopioamdahaa.X Go.Proofs.YtijjopioamdahaaW.PrintWords Go.Proofs.YtijjopioamdahaaW.PrintLast Go.Proofs.YtijjopioamdahaaW.PrintMore
attribute [local go_sem] max2_int min2_int max_two min_two max_three min_three max_four min_four   -- for this text's walks alone
set_option linter.unusedVariables false
set_option linter.unusedSimpArgs false
set_option maxHeartbeats 40000000 in
set_option maxRecDepth 100000 in
theorem refsha_calls (A : Option Addr) (c : Nat) (l : List Int) (w : World) (hr : Kd.C (Kd.int .u8) w A l.length l) (hc : l.length ≤ c) (hl : l.length ≤ 1000000) (h8 : ∀ x ∈ l, 0 ≤ x ∧ x ≤ 255) :
    Calls Try.prog 14 #[.slice A l.length c] w fun e w' => ∃ v, e = .returned v ∧ Kd.R (Kd.int .u8) 5 w' w.heap.size (fun _ => True) v (shaF l) ∧ Below w.heap.size w w' := by
  have HR := Aside0.mk hr
  have HC := Aside0.mk hc
  have HL := Aside0.mk hl
  have H8 := Aside0.mk h8
  have hlb : (l.length : Int) ≤ 1000000 := by omega
  clear hr hc hl h8
  go_enter Try.func14, Try.ntmps14
  go_wp2_with (first | ((with_reducible refine gate_dst (N := 31) rfl ?_); refine Kd.R_lit (Kd.int .u32) _ 24 ?hg (N := 31) ?hd (xs := KS) (inner := [.int .u32 1116352408, .int .u32 1899447441, .int .u32 3049323471, .int .u32 3921009573, .int .u32 961987163, .int .u32 1508970993, .int .u32 2453635748, .int .u32 2870763221, .int .u32 3624381080, .int .u32 310598401, .int .u32 607225278, .int .u32 1426881987, .int .u32 1925078388, .int .u32 2162078206, .int .u32 2614888103, .int .u32 3248222580, .int .u32 3835390401, .int .u32 4022224774, .int .u32 264347078, .int .u32 604807628, .int .u32 770255983, .int .u32 1249150122, .int .u32 1555081692, .int .u32 1996064986, .int .u32 2554220882, .int .u32 2821834349, .int .u32 2952996808, .int .u32 3210313671, .int .u32 3336571891, .int .u32 3584528711, .int .u32 113926993, .int .u32 338241895, .int .u32 666307205, .int .u32 773529912, .int .u32 1294757372, .int .u32 1396182291, .int .u32 1695183700, .int .u32 1986661051, .int .u32 2177026350, .int .u32 2456956037, .int .u32 2730485921, .int .u32 2820302411, .int .u32 3259730800, .int .u32 3345764771, .int .u32 3516065817, .int .u32 3600352804, .int .u32 4094571909, .int .u32 275423344, .int .u32 430227734, .int .u32 506948616, .int .u32 659060556, .int .u32 883997877, .int .u32 958139571, .int .u32 1322822218, .int .u32 1537002063, .int .u32 1747873779, .int .u32 1955562222, .int .u32 2024104815, .int .u32 2227730452, .int .u32 2361852424, .int .u32 2428436474, .int .u32 2756734187, .int .u32 3204031479, .int .u32 3329325298]) (ok := fun _ => True) (okp := fun _ => True) ?hr ?hp (fun _ hk => hk) trivial (Below.refl _ _) (Nat.le_refl _) ?hm ?_; (case hm => simp [KS]); (case hd => rfl); (case hg => rfl); (case hr => first | (go_simp; done) | (go_simp; rfl)); (case hp => exact Kd.reps_scalar (enc := Value.int .u32) KS); intro v31 w31_ ho hb hg_ hnew_; obtain ⟨AK, cK, rfl, hcK, hCK⟩ := Kd.R_reads ho; have HK := Aside0.mk hCK; have HKC := Aside0.mk hcK; have HB31 := Aside0.mk hb; clear ho hb hg_ hnew_ hcK hCK) | ((with_reducible refine gate_dst (N := 32) rfl ?_); refine Kd.R_lit (Kd.int .u8) _ 5 ?hg (N := 32) ?hd (xs := ([] : List Int)) (inner := []) (ok := fun _ => True) (okp := fun _ => True) ?hr ?hp (fun _ hk => hk) trivial (Below.refl _ _) (Nat.le_refl _) ?hm ?_; (case hm => simp []); (case hd => rfl); (case hg => rfl); (case hr => first | (go_simp; done) | (go_simp; rfl)); (case hp => exact Kd.reps_scalar (enc := Value.int .u8) ([] : List Int)); intro v32 w32_ ho hb hg_ hnew_; have HO32 := Aside0.mk ho; have HB32 := Aside0.mk hb; clear ho hb hg_ hnew_) | ((with_reducible refine gate_builtin (b := .append) (xs := #[.tmp 33, .tmp 34]) rfl ?_); fail) | ((with_reducible refine gate_builtin (b := .append) (xs := #[.tmp 32, .tmp 33]) rfl ?_); at_builtin; refine Kd.R_append_row (Value.int .u8) (0 : Int) (h1 := fun _ => rfl) (w0 := w31_) w31_.heap.size rfl (.tmp 32) (.tmp 33) 22 5 (.int .u8 0) 1 rfl Try.underlying22 info5 rfl (by decide) v32 [] l A l.length c (fun _ => True) rfl rfl (fun _ _ => trivial) HO32.out (Kd.C_below (Kd.C_below HR.out HB31.out) HB32.out) HB32.out HB32.out.size (by have h_ := HL.out; simp; omega) ?_; intro v34 w34 ho hb hg hat; have HO34 : Aside0 (Kd.R (Kd.int .u8) 5 w34 w31_.heap.size (fun _ => True) v34 l) := ⟨ho⟩; have HB34 := Aside0.mk hb; clear ho hb hg hat) | ((with_reducible refine gate_builtin (b := .append) (xs := #[.tmp 35, .tmp 36]) rfl ?_); at_builtin; refine Kd.R_append (Kd.int .u8) (w0 := w31_) w31_.heap.size rfl (.tmp 35) (.tmp 36) 22 5 (.int .u8 0) 1 rfl Try.underlying22 info5 rfl (by decide) (by omega) (v34) l (128) [.int .u8 (128)] (fun _ => True) (fun _ => False) rfl rfl ?aP (fun _ hk => hk.elim) ?aF ?aO ?aB ?aS ?aL ?_; (case aP => exact rfl); (case aB => exact HB34.out); (case aF => exact (fun _ _ => trivial)); (case aO => exact HO34.out); (case aS => exact (HB34.out).size); (case aL => have h_ := HL.out; omega); intro v37 w37 ho hb hg hat; have HO37 := Aside0.mk ho; have HB37 := Aside0.mk hb; clear ho hb hg hat))
  rw [show KS.length = 64 from rfl] at HK HKC ⊢
  obtain ⟨adk, rfl, _⟩ := Kd.at_int HK.out 0 (by decide) (by decide)
  go_loopw [4] (fun v wr => ∃ k : Nat, k ≤ zerosN l.length ∧ Aside0 (Kd.R (Kd.int .u8) 5 wr w31_.heap.size (fun _ => True) v (l ++ [128] ++ List.replicate k 0)) ∧ Aside0 (Below w31_.heap.size w31_ wr)) (fun v _ => match v with | .slice _ m _ => l.length + 65 - m | _ => 0)
  case atStart => exact ⟨0, Nat.zero_le _, ⟨by rw [List.replicate_zero, List.append_nil]; exact HO37.out⟩, HB37⟩
  case round =>
    clear HO37 HB37 HO34 HB34 HO32 HB32
    obtain ⟨k, hk, HRr, HB⟩ := hrel
    obtain ⟨A1, c1, rfl, hc1, _⟩ := Kd.R_reads HRr.out
    obtain ⟨ys, hys⟩ : ∃ ys, ys = l ++ [128] ++ List.replicate k (0 : Int) := ⟨_, rfl⟩
    rw [← hys] at HRr hc1 ⊢
    have hyl : ys.length = l.length + 1 + k := by rw [hys, List.length_append, List.length_append, List.length_replicate, List.length_singleton]
    have hz : zerosN l.length = (119 - l.length % 64) % 64 := rfl
    have hb1 : (ys.length : Int) ≤ 2000000 := by omega
    by_cases hlt : k < zerosN l.length
    · have ht : (((ys.length : Int) % 64) != 56) = true := by
        have : (ys.length : Int) % 64 ≠ 56 := by omega
        simpa using this
      have HYL := Aside0.mk hyl
      have HYS := Aside0.mk hys
      have HK0 := Aside0.mk hk
      have HLT := Aside0.mk hlt
      clear hyl hys hk hlt hz
      go_wp2_with (((with_reducible refine gate_builtin (b := .append) (xs := #[.tmp 42, .tmp 43]) rfl ?_); at_builtin; refine Kd.R_append (Kd.int .u8) (w0 := w31_) w31_.heap.size rfl (.tmp 42) (.tmp 43) 22 5 (.int .u8 0) 1 rfl Try.underlying22 info5 rfl (by decide) (by omega) (.slice A1 ys.length c1) ys (0) [.int .u8 (0)] (fun _ => True) (fun _ => False) rfl rfl ?aP (fun _ hk => hk.elim) ?aF ?aO ?aB ?aS ?aL ?_; (case aP => exact rfl); (case aB => exact HB.out); (case aF => exact (fun _ _ => trivial)); (case aO => exact HRr.out); (case aS => exact (HB.out).size); (case aL => omega); intro v2 w3 ho hb hg hat; obtain ⟨A2, c2, rfl, hc2, hC2⟩ := Kd.R_reads ho; have HO := Aside0.mk ho; have HB3 := Aside0.mk hb; clear ho hb hg hat hc2 hC2))
      go_roundw
      case rel =>
        refine ⟨k + 1, HLT.out, ⟨?_⟩, HB3⟩
        have h := HO.out
        rw [show l ++ [128] ++ List.replicate (k + 1) (0 : Int) = ys ++ [0] by rw [HYS.out, List.replicate_succ', ← List.append_assoc]]
        rw [List.length_append, List.length_singleton] at h
        exact h
      case measure => have := HYL.out; have := HLT.out; have h63 : zerosN l.length ≤ 63 := by unfold zerosN; omega
                      simp; omega
    · have ht : (((ys.length : Int) % 64) != 56) = false := by
        have : (ys.length : Int) % 64 = 56 := by omega
        simpa using this
      have hkz : k = zerosN l.length := by omega
      have HYS := Aside0.mk (hkz ▸ hys)
      have HYL := Aside0.mk hyl
      have HKZ := Aside0.mk hkz
      clear hyl hys hk hlt hz hkz
      go_wp2
      clear ht
      obtain ⟨wc, rfl⟩ : ∃ wc : World, wc = wr := ⟨_, rfl⟩
      go_loopw [4, 6] (fun v i wr => ∃ k : Nat, k ≤ 8 ∧ i = .int .i64 (7 - (k : Int)) ∧ Aside0 (Kd.R (Kd.int .u8) 5 wr w31_.heap.size (fun _ => True) v (ys ++ bitsB (l.length : Int) k)) ∧ Aside0 (Below w31_.heap.size w31_ wr)) (fun _ i _ => (intOf i + 1).toNat)
      case atStart => exact ⟨0, Nat.zero_le _, rfl, ⟨by rw [bitsB, List.append_nil]; exact HRr.out⟩, HB⟩
      case round =>
        clear HRr HB hc1
        obtain ⟨k2, hk2, rfl, HRr, HB⟩ := hrel
        obtain ⟨A2, c2, rfl, hc2, _⟩ := Kd.R_reads HRr.out
        obtain ⟨zs, hzs⟩ : ∃ zs, zs = ys ++ bitsB (l.length : Int) k2 := ⟨_, rfl⟩
        rw [← hzs] at HRr hc2 ⊢
        have HZS := Aside0.mk hzs
        have HC2 := Aside0.mk hc2
        clear hzs hc2
        by_cases hlt : k2 < 8
        · have hzl : zs.length ≤ 2000000 := by have h1 := HYL.out; have h2 := HKZ.out; have h63 : zerosN l.length ≤ 63 := (by unfold zerosN; omega); rw [HZS.out, List.length_append, bitsB_len]; omega
          have HZL := Aside0.mk hzl
          have HLT := Aside0.mk hlt
          have ht2 : decide ((k2 : Int) ≤ 7) = true := decide_eq_true (by omega)
          clear hzl
          go_wp2_with (((with_reducible refine gate_builtin (b := .append) (xs := #[.tmp 53, .tmp 59]) rfl ?_); at_builtin; refine Kd.R_append (Kd.int .u8) (w0 := w31_) w31_.heap.size rfl (.tmp 53) (.tmp 59) 22 5 (.int .u8 0) 1 rfl Try.underlying22 info5 rfl (by decide) (by omega) (.slice A2 zs.length c2) zs ((l.length : Int) * 8 / 2 ^ (8 * (7 - k2)) % 256) [.int .u8 ((l.length : Int) * 8 / 2 ^ (8 * (7 - k2)) % 256)] (fun _ => True) (fun _ => False) rfl rfl ?bP (fun _ hk => hk.elim) ?bF ?bO ?bB ?bS ?bL ?_; (case bP => exact rfl); (case bB => exact HB.out); (case bF => exact (fun _ _ => trivial)); (case bO => exact HRr.out); (case bS => exact (HB.out).size); (case bL => have := HZL.out; omega); intro v2 w3 ho hb hg hat; have HO := Aside0.mk ho; have HB3 := Aside0.mk hb; clear ho hb hg hat))
          go_roundw
          case rel =>
            refine ⟨k2 + 1, HLT.out, by congr 1; omega, ⟨?_⟩, HB3⟩
            rw [show ys ++ bitsB (l.length : Int) (k2 + 1) = zs ++ [(l.length : Int) * 8 / 2 ^ (8 * (7 - k2)) % 256] by rw [HZS.out, bitsB, List.append_assoc, bits_ref _ _ HLT.out]]
            exact HO.out
          case measure => simp [intOf]; omega
        · have hk8 : k2 = 8 := by omega
          subst hk8
          clear hlt hk2
          have hes : zs = padF l (l.length : Int) := by rw [HZS.out, HYS.out]; rfl
          subst hes
          have HES := Aside0.mk (Kd.R_reads' HRr.out).2.2
          have HPL := Aside0.mk (padF_len l (l.length : Int))
          have HP8 := Aside0.mk (padF_8 l (l.length : Int) H8.out)
          have HK2 := Aside0.mk (Kd.C_below HK.out HB.out)
          have HBw := Aside0.mk (below_step HB31.out HB.out)
          obtain ⟨es, hes⟩ : ∃ es, es = padF l (l.length : Int) := ⟨_, rfl⟩
          rw [← hes] at HES HPL HP8 HC2 ⊢
          have HESQ := Aside0.mk hes
          have hdiv : ∃ M, es.length = 64 * M ∧ M ≤ 20000 := ⟨es.length / 64, by have h1 := HPL.out; have h2 : zerosN l.length = (119 - l.length % 64) % 64 := rfl; omega, by have h1 := HPL.out; have h2 : zerosN l.length = (119 - l.length % 64) % 64 := rfl; omega⟩
          obtain ⟨M, hM, hM2⟩ := hdiv
          have HM := Aside0.mk hM
          clear HRr HZS hes HB HK HR HYS hb1 hlb hM
          obtain ⟨wA, rfl⟩ : ∃ wA : World, wA = wr := ⟨_, rfl⟩
          obtain ⟨ad, rfl, _⟩ := Kd.at_int HES.out 0 (by decide) (by have := HPL.out; omega)
          have h7 : decide ((8 : Nat) ≤ 7) = false := rfl
          go_wp2_with (first | ((with_reducible refine gate_dst (N := 61) rfl ?_); refine Kd.R_lit (Kd.int .u32) _ 24 ?hg (N := 61) ?hd (xs := START) (inner := [.int .u32 1779033703, .int .u32 3144134277, .int .u32 1013904242, .int .u32 2773480762, .int .u32 1359893119, .int .u32 2600822924, .int .u32 528734635, .int .u32 1541459225]) (ok := fun _ => True) (okp := fun _ => True) ?hr ?hp (fun _ hk => hk) trivial (Below.refl _ _) (Nat.le_refl _) ?hm ?_; (case hm => simp [START]); (case hd => rfl); (case hg => rfl); (case hr => first | (go_simp; done) | (go_simp; rfl)); (case hp => exact Kd.reps_scalar (enc := Value.int .u32) START); intro v61 w61_ ho hb hg_ hnew_; have HS0 := Aside0.mk ho; have HB0 := Aside0.mk hb; clear ho hb hg_ hnew_))
          clear h7
          have hs3 := own_of_R3 HS0.out
          rcases hs3.2 with ⟨_, hn_⟩ | ⟨gs, cs, cur, rfl, hgs, _⟩
          · cases hn_
          rw [show START.length = 8 from rfl] at HS0 ⊢
          clear hs3
          go_loopw [8] (fun i wr => ∃ n : Nat, 64 * n ≤ es.length ∧ i = .int .i64 ((64 * n : Nat) : Int) ∧ Aside0 (Kd.R (Kd.int .u32) 24 wr wA.heap.size (fun _ => True) (.slice (some ⟨gs, 0, none⟩) 8 cs) (blkN START es n)) ∧ Aside0 (Below wA.heap.size wA wr)) (fun i _ => es.length - (intOf i).toNat)
          case atStart => exact ⟨0, by omega, rfl, HS0, HB0⟩
          case round =>
            clear HS0 HB0
            obtain ⟨n, hn, rfl, HS, HB⟩ := hrel
            obtain ⟨wB, rfl⟩ : ∃ wB : World, wB = wr := ⟨_, rfl⟩
            by_cases hlt : 64 * n < es.length
            · obtain ⟨a0, ha0⟩ : ∃ a0, a0 = 64 * n := ⟨_, rfl⟩
              rw [← ha0] at hlt hn ⊢
              have ha1 : a0 + 64 ≤ es.length := by have := HM.out; omega
              obtain ⟨blk, hblk⟩ : ∃ blk, blk = (es.drop (64 * n)).take 64 := ⟨_, rfl⟩
              obtain ⟨W, hW⟩ : ∃ W, W = schedT blk 64 := ⟨_, rfl⟩
              have hWl : W.length = 64 := by rw [hW, schedT_len]
              obtain ⟨S, hS⟩ : ∃ S, S = blkN START es n := ⟨_, rfl⟩
              rw [← hS] at HS
              have hSl : S.length = 8 := by rw [hS]; exact blkN_len _ _ rfl _
              have hb8 : ∀ i, 0 ≤ rd blk i ∧ rd blk i ≤ 255 := fun i => rd_all (fun x hx => HP8.out x (by rw [hblk] at hx; exact List.mem_of_mem_drop (List.mem_of_mem_take hx))) i
              have HA0 := Aside0.mk ha0
              have HBLK := Aside0.mk hblk
              have HW := Aside0.mk hW
              have HWL := Aside0.mk hWl
              have HSQ := Aside0.mk hS
              have HSL := Aside0.mk hSl
              have HB8 := Aside0.mk hb8
              have hab : a0 ≤ 2000000 := by have := HM.out; omega
              have HAB := Aside0.mk ha1
              have HLT0 := Aside0.mk hlt
              clear hn ha0 hblk hW hWl hS hSl hb8
              go_wp2
              clear hlt ha1
              go_loopw [9, 10] (fun v i wr => ∃ t : Nat, t ≤ 64 ∧ i = .int .i64 t ∧ Aside0 (Kd.R (Kd.int .u32) 24 wr wB.heap.size (fun _ => True) v (W.take t)) ∧ Aside0 (Below wB.heap.size wB wr)) (fun _ i _ => 64 - (intOf i).toNat)
              case atStart => exact ⟨0, by omega, rfl, ⟨Kd.R_nil _ _ _ _ _⟩, ⟨Below.refl _ _⟩⟩
              case round =>
                obtain ⟨t, ht, rfl, HV, HBt⟩ := hrel
                obtain ⟨A9, c9, rfl, hc9, hC9⟩ := Kd.R_reads HV.out
                obtain ⟨vs, hvs⟩ : ∃ vs, vs = W.take t := ⟨_, rfl⟩
                rw [← hvs] at HV hc9 hC9 ⊢
                have hvl : vs.length = t := by rw [hvs, List.length_take, HWL.out]; omega
                have HVS := Aside0.mk hvs
                have HVL := Aside0.mk hvl
                have HC9 := Aside0.mk hC9
                have HCC9 := Aside0.mk hc9
                clear hvs hvl hC9 hc9
                by_cases ht16 : t < 16
                · have d1 : decide ((t : Int) < 64) = true := decide_eq_true (by omega)
                  have d2 : decide ((t : Int) < 16) = true := decide_eq_true (by omega)
                  go_wp2
                  go_loop [11, 12] (fun x i => ∃ k : Nat, k ≤ 4 ∧ i = .int .i64 k ∧ x = .int .u32 (accW blk (4 * (t : Int)) k)) (fun _ i => 4 - (intOf i).toNat)
                  case atStart => exact ⟨0, by omega, rfl, rfl⟩
                  case round =>
                    obtain ⟨k, hk, rfl, rfl⟩ := hrel
                    by_cases hk4 : k < 4
                    · obtain ⟨x, hx⟩ : ∃ x, x = accW blk (4 * (t : Int)) k := ⟨_, rfl⟩
                      have hxb := accW_lt blk (4 * (t : Int)) HB8.out k (by omega)
                      rw [← hx] at hxb ⊢
                      obtain ⟨hx0, hx1⟩ := hxb
                      obtain ⟨_, e0, hcell⟩ := Kd.at_int (Kd.C_below (Kd.C_below HES.out HB.out) HBt.out) ((a0 + 4 * t + k : Nat) : Int) (by omega) (by have := HAB.out; omega)
                      cases e0
                      rw [Int.toNat_natCast] at hcell
                      have hrd : rd es ((a0 + 4 * t + k : Nat) : Int) = rd blk (4 * (t : Int) + (k : Int)) := by
                        rw [HBLK.out, show (4 * (t : Int) + (k : Int)) = ((4 * t + k : Nat) : Int) by omega, rd_blk es n (4 * t + k) (by omega), HA0.out]
                        congr 1
                        omega
                      rw [hrd] at hcell
                      obtain ⟨y, hy⟩ : ∃ y, y = rd blk (4 * (t : Int) + (k : Int)) := ⟨_, rfl⟩
                      have hyb := HB8.out (4 * (t : Int) + (k : Int))
                      rw [← hy] at hcell hyb
                      obtain ⟨y0, y1⟩ := hyb
                      have HXX := Aside0.mk hx
                      have HY := Aside0.mk hy
                      have d3 : decide ((k : Int) < 4) = true := decide_eq_true (by omega)
                      have hin : a0 + 4 * t + k < es.length := by have := HAB.out; omega
                      clear hx hy hrd
                      go_wp2
                      go_round
                      case rel => exact ⟨k + 1, by omega, by go_num, by rw [HXX.out, HY.out]; rfl⟩
                      case measure => simp [intOf]; omega
                    · have hk4' : k = 4 := by omega
                      subst hk4'
                      clear hk4 hk
                      have hx : accW blk (4 * (t : Int)) 4 = rd W (t : Int) := by rw [accW_is _ _ HB8.out, HW.out, sched_low _ _ ht16]
                      obtain ⟨x, hx'⟩ : ∃ x, x = accW blk (4 * (t : Int)) 4 := ⟨_, rfl⟩
                      rw [← hx'] at hx ⊢
                      have HXX := Aside0.mk hx
                      clear hx hx'
                      have d4 : decide ((4 : Int) < 4) = false := rfl
                      go_wp2_with (((with_reducible refine gate_builtin (b := .append) (xs := #[.tmp 91, .tmp 93]) rfl ?_); at_builtin; refine Kd.R_append (Kd.int .u32) (w0 := wB) wB.heap.size rfl (.tmp 91) (.tmp 93) 43 24 (.int .u32 0) 4 rfl Try.underlying43 info24 rfl (by decide) (by omega) (.slice A9 vs.length c9) vs (x) [.int .u32 (x)] (fun _ => True) (fun _ => False) rfl rfl ?cP (fun _ hk => hk.elim) ?cF ?cO ?cB ?cS ?cL ?_; (case cP => exact rfl); (case cB => exact HBt.out); (case cF => exact (fun _ _ => trivial)); (case cO => exact HV.out); (case cS => exact (HBt.out).size); (case cL => have := HVL.out; omega); intro v2 w3 ho hb hg hat; have HO := Aside0.mk ho; have HB3 := Aside0.mk hb; clear ho hb hg hat))
                      go_roundw
                      case rel =>
                        refine ⟨t + 1, by omega, by go_num, ⟨?_⟩, HB3⟩
                        rw [take_step W t (by rw [HWL.out]; omega), ← HVS.out, ← HXX.out]
                        exact HO.out
                      case measure => simp [intOf]; omega
                · by_cases ht64 : t < 64
                  · have hwt : rd W (t : Int) = nextW W t := by rw [HW.out]; exact sched_high blk t (by omega) ht64
                    obtain ⟨ad9, e9, _⟩ := Kd.at_int HC9.out 0 (by decide) (by have := HVL.out; omega)
                    cases e9
                    obtain ⟨a15, ha15⟩ : ∃ a : Nat, a = t - 15 := ⟨_, rfl⟩
                    obtain ⟨a2, ha2⟩ : ∃ a : Nat, a = t - 2 := ⟨_, rfl⟩
                    obtain ⟨a16, ha16⟩ : ∃ a : Nat, a = t - 16 := ⟨_, rfl⟩
                    obtain ⟨a7, ha7⟩ : ∃ a : Nat, a = t - 7 := ⟨_, rfl⟩
                    have hnx : nextW W t = ((rd W (a16 : Int) + Go.bits .xor .u32 (Go.bits .xor .u32 (rot (rd W (a15 : Int)) 7) (rot (rd W (a15 : Int)) 18)) (rd W (a15 : Int) / 8)) + rd W (a7 : Int) + Go.bits .xor .u32 (Go.bits .xor .u32 (rot (rd W (a2 : Int)) 17) (rot (rd W (a2 : Int)) 19)) (rd W (a2 : Int) / 1024)) % 4294967296 := by
                      unfold nextW
                      rw [← ha15, ← ha2, ← ha16, ← ha7]
                    have hvl := HVL.out
                    have hcell : ∀ a : Nat, a < t → wr.cell? (ad9.add a) = some (.int .u32 (rd W (a : Int))) := fun a ha => by
                      obtain ⟨_, e_, hc_⟩ := Kd.at_int HC9.out (a : Int) (by omega) (by omega)
                      cases e_
                      rw [Int.toNat_natCast, HVS.out, rd_take W t a ha] at hc_
                      exact hc_
                    have hc15 := hcell a15 (by omega)
                    have hc2 := hcell a2 (by omega)
                    have hc16 := hcell a16 (by omega)
                    have hc7 := hcell a7 (by omega)
                    clear hcell
                    obtain ⟨r15, hr15⟩ : ∃ r, r = rd W (a15 : Int) := ⟨_, rfl⟩
                    obtain ⟨r2, hr2⟩ : ∃ r, r = rd W (a2 : Int) := ⟨_, rfl⟩
                    obtain ⟨r16, hr16⟩ : ∃ r, r = rd W (a16 : Int) := ⟨_, rfl⟩
                    obtain ⟨r7, hr7⟩ : ∃ r, r = rd W (a7 : Int) := ⟨_, rfl⟩
                    rw [← hr15, ← hr2, ← hr16, ← hr7] at hnx
                    rw [← hr15] at hc15
                    rw [← hr2] at hc2
                    rw [← hr16] at hc16
                    rw [← hr7] at hc7
                    have HNX := Aside0.mk (hwt.trans hnx)
                    clear hwt hnx hr15 hr2 hr16 hr7
                    have w15 : wrap64 ((t : Int) - 15) = (a15 : Int) := by unfold wrap64; omega
                    have w2 : wrap64 ((t : Int) - 2) = (a2 : Int) := by unfold wrap64; omega
                    have w16 : wrap64 ((t : Int) - 16) = (a16 : Int) := by unfold wrap64; omega
                    have w7 : wrap64 ((t : Int) - 7) = (a7 : Int) := by unfold wrap64; omega
                    have z15 : IntKind.i64.wrap ((t : Int) - 15) = (a15 : Int) := by rw [IntWalk.i64_in _ (by omega)]; omega
                    have z2 : IntKind.i64.wrap ((t : Int) - 2) = (a2 : Int) := by rw [IntWalk.i64_in _ (by omega)]; omega
                    have z16 : IntKind.i64.wrap ((t : Int) - 16) = (a16 : Int) := by rw [IntWalk.i64_in _ (by omega)]; omega
                    have z7 : IntKind.i64.wrap ((t : Int) - 7) = (a7 : Int) := by rw [IntWalk.i64_in _ (by omega)]; omega
                    have m15 : a15 < vs.length := by omega
                    have m2 : a2 < vs.length := by omega
                    have m16 : a16 < vs.length := by omega
                    have m7 : a7 < vs.length := by omega
                    have l15 : (a15 : Int) < (vs.length : Int) := by omega
                    have l2 : (a2 : Int) < (vs.length : Int) := by omega
                    have l16 : (a16 : Int) < (vs.length : Int) := by omega
                    have l7 : (a7 : Int) < (vs.length : Int) := by omega
                    have d1 : decide ((t : Int) < 64) = true := decide_eq_true (by omega)
                    have d2 : decide ((t : Int) < 16) = false := decide_eq_false (by omega)
                    have HVL2 := Aside0.mk hvl
                    have HT64 := Aside0.mk ht64
                    clear ha15 ha2 ha16 ha7 hvl ht64 ht16 ht
                    go_wp2
                    go_quiet ((go_at_call 22; refine (brazierref02_down.calls _ _ (rot _ _) _ (down_is _ _ (by decide) (by decide))).mono ?_; rintro e w' ⟨rfl, ⟨⟨nd, rfl⟩⟩⟩; first | exact ⟨rfl, _, World.drewN_drewN _ _ _⟩ | exact ⟨rfl, _, Eq.trans (World.drewN_drewN _ _ _) (congrArg (World.drewN _) (Nat.add_assoc _ _ _))⟩))
                    go_wp2
                    go_quiet ((go_at_call 22; refine (brazierref02_down.calls _ _ (rot _ _) _ (down_is _ _ (by decide) (by decide))).mono ?_; rintro e w' ⟨rfl, ⟨⟨nd, rfl⟩⟩⟩; first | exact ⟨rfl, _, World.drewN_drewN _ _ _⟩ | exact ⟨rfl, _, Eq.trans (World.drewN_drewN _ _ _) (congrArg (World.drewN _) (Nat.add_assoc _ _ _))⟩))
                    go_wp2
                    generalize hwq_ : World.drewN (World.drewN wr _) _ = wq
                    have HVq : Aside0 (Kd.R (Kd.int .u32) 24 wq wB.heap.size (fun _ => True) (.slice (some ad9) vs.length c9) vs) := ⟨by rw [← hwq_]; exact Kd.R_drewN (Kd.R_drewN HV.out _) _⟩
                    have HBq : Aside0 (Below wB.heap.size wB wq) := ⟨by rw [← hwq_]; exact pw_below_drewN (pw_below_drewN HBt.out _) _⟩
                    have q16 : wq.cell? (ad9.add a16) = some (.int .u32 r16) := by rw [← hwq_]; exact hc16
                    have q7 : wq.cell? (ad9.add a7) = some (.int .u32 r7) := by rw [← hwq_]; exact hc7
                    clear hc15 hc2 hc16 hc7 hwq_
                    obtain ⟨s0, hs0⟩ : ∃ s, s = Go.bits .xor .u32 (Go.bits .xor .u32 (rot r15 7) (rot r15 18)) (r15 / 8) := ⟨_, rfl⟩
                    obtain ⟨s1, hs1⟩ : ∃ s, s = Go.bits .xor .u32 (Go.bits .xor .u32 (rot r2 17) (rot r2 19)) (r2 / 1024) := ⟨_, rfl⟩
                    have hnx := HNX.out
                    rw [← hs0, ← hs1] at hnx ⊢
                    have HNY := Aside0.mk hnx
                    clear hnx hs0 hs1 HNX
                    refine start_ (n := 19) (S := fun w_ => w_.cell? (ad9.add a16) = some (.int .u32 r16) ∧ w_.cell? (ad9.add a7) = some (.int .u32 r7) ∧ Aside0 (Kd.R (Kd.int .u32) 24 w_ wB.heap.size (fun _ => True) (.slice (some ad9) vs.length c9) vs) ∧ Aside0 (Below wB.heap.size wB w_)) (ds := [17]) #[false, false, false, false, false, false, false, false, false, false, false, false, false, false, false, false, false, false, false] (by kernel_rfl) rfl rfl ⟨q16, q7, ⟨Kd.R_drew HVq.out⟩, ⟨below_drew1 HBq.out⟩⟩ (fun hHeld => ?_)
                    refine pure_ (i := 0) (N := some 135) (v := ?_) (a' := ?_) #[true, false, false, false, false, false, false, false, false, false, false, false, false, false, false, false, false, false, false] rfl rfl (by kernel_rfl) (fun _ _ _ h => h) (Or.inl ⟨by rfl, ?_⟩) ?_ ?_
                    rotate_left
                    · intro w'
                      go_simp
                      with_reducible rfl
                    rotate_left
                    · simp only [Act.put, List.setIfInBounds_toArray, List.set_cons_zero, List.set_cons_succ, i64_w, i32_w]
                      rfl
                    refine pure_ (i := 1) (N := some 136) (v := ?_) (a' := ?_) #[true, true, false, false, false, false, false, false, false, false, false, false, false, false, false, false, false, false, false] rfl rfl (by kernel_rfl) (fun _ _ _ h => h) (Or.inl ⟨by rfl, ?_⟩) ?_ ?_
                    rotate_left
                    · intro w'
                      go_simp
                      with_reducible rfl
                    rotate_left
                    · simp only [Act.put, List.setIfInBounds_toArray, List.set_cons_zero, List.set_cons_succ, i64_w, i32_w]
                      rfl
                    refine pure_ (i := 2) (N := some 137) (v := ?_) (a' := ?_) #[true, true, true, false, false, false, false, false, false, false, false, false, false, false, false, false, false, false, false] rfl rfl (by kernel_rfl) (fun _ _ _ h => h) (Or.inl ⟨by rfl, ?_⟩) ?_ ?_
                    rotate_left
                    · intro w'
                      go_simp
                      with_reducible rfl
                    rotate_left
                    · simp only [Act.put, List.setIfInBounds_toArray, List.set_cons_zero, List.set_cons_succ, i64_w, i32_w]
                      rfl
                    refine pure_ (i := 3) (N := some 138) (v := ?_) (a' := ?_) #[true, true, true, true, false, false, false, false, false, false, false, false, false, false, false, false, false, false, false] rfl rfl (by kernel_rfl) (fun _ _ _ h => h) (Or.inl ⟨by rfl, ?_⟩) ?_ ?_
                    rotate_left
                    · intro w'
                      go_simp
                      with_reducible rfl
                    rotate_left
                    · simp only [Act.put, List.setIfInBounds_toArray, List.set_cons_zero, List.set_cons_succ, i64_w, i32_w]
                      rfl
                    refine pure_ (i := 4) (N := some 139) (v := ?_) (a' := ?_) #[true, true, true, true, true, false, false, false, false, false, false, false, false, false, false, false, false, false, false] rfl rfl (by kernel_rfl) (fun _ _ _ h => h) (Or.inl ⟨by rfl, ?_⟩) ?_ ?_
                    rotate_left
                    · intro w'
                      go_simp
                      with_reducible rfl
                    rotate_left
                    · simp only [Act.put, List.setIfInBounds_toArray, List.set_cons_zero, List.set_cons_succ, i64_w, i32_w]
                      rfl
                    refine take_ (i := 5) (N := some 140) (v := ?_) (a' := ?_) #[true, true, true, true, true, true, false, false, false, false, false, false, false, false, false, false, false, false, false] rfl rfl (by kernel_rfl) (fun _ _ _ h => h) (Or.inl ⟨by rfl, ?_⟩) hHeld ?_ ?_
                    rotate_left
                    · rintro w' ⟨hs0_, hs1_, hs2_, hs3_⟩
                      go_simp
                      with_reducible rfl
                    rotate_left
                    · simp only [Act.put, List.setIfInBounds_toArray, List.set_cons_zero, List.set_cons_succ, i64_w, i32_w]
                      rfl
                    refine pure_ (i := 6) (N := some 141) (v := ?_) (a' := ?_) #[true, true, true, true, true, true, true, false, false, false, false, false, false, false, false, false, false, false, false] rfl rfl (by kernel_rfl) (fun _ _ _ h => h) (Or.inl ⟨by rfl, ?_⟩) ?_ ?_
                    rotate_left
                    · intro w'
                      go_simp
                      with_reducible rfl
                    rotate_left
                    · simp only [Act.put, List.setIfInBounds_toArray, List.set_cons_zero, List.set_cons_succ, i64_w, i32_w]
                      rfl
                    refine pure_ (i := 7) (N := some 142) (v := ?_) (a' := ?_) #[true, true, true, true, true, true, true, true, false, false, false, false, false, false, false, false, false, false, false] rfl rfl (by kernel_rfl) (fun _ _ _ h => h) (Or.inl ⟨by rfl, ?_⟩) ?_ ?_
                    rotate_left
                    · intro w'
                      go_simp
                      with_reducible rfl
                    rotate_left
                    · simp only [Act.put, List.setIfInBounds_toArray, List.set_cons_zero, List.set_cons_succ, i64_w, i32_w]
                      rfl
                    refine pure_ (i := 8) (N := some 143) (v := ?_) (a' := ?_) #[true, true, true, true, true, true, true, true, true, false, false, false, false, false, false, false, false, false, false] rfl rfl (by kernel_rfl) (fun _ _ _ h => h) (Or.inl ⟨by rfl, ?_⟩) ?_ ?_
                    rotate_left
                    · intro w'
                      go_simp
                      with_reducible rfl
                    rotate_left
                    · simp only [Act.put, List.setIfInBounds_toArray, List.set_cons_zero, List.set_cons_succ, i64_w, i32_w]
                      rfl
                    refine pure_ (i := 9) (N := some 144) (v := ?_) (a' := ?_) #[true, true, true, true, true, true, true, true, true, true, false, false, false, false, false, false, false, false, false] rfl rfl (by kernel_rfl) (fun _ _ _ h => h) (Or.inl ⟨by rfl, ?_⟩) ?_ ?_
                    rotate_left
                    · intro w'
                      go_simp
                      with_reducible rfl
                    rotate_left
                    · simp only [Act.put, List.setIfInBounds_toArray, List.set_cons_zero, List.set_cons_succ, i64_w, i32_w]
                      rfl
                    refine pure_ (i := 10) (N := some 145) (v := ?_) (a' := ?_) #[true, true, true, true, true, true, true, true, true, true, true, false, false, false, false, false, false, false, false] rfl rfl (by kernel_rfl) (fun _ _ _ h => h) (Or.inl ⟨by rfl, ?_⟩) ?_ ?_
                    rotate_left
                    · intro w'
                      go_simp
                      with_reducible rfl
                    rotate_left
                    · simp only [Act.put, List.setIfInBounds_toArray, List.set_cons_zero, List.set_cons_succ, i64_w, i32_w]
                      rfl
                    refine pure_ (i := 11) (N := some 146) (v := ?_) (a' := ?_) #[true, true, true, true, true, true, true, true, true, true, true, true, false, false, false, false, false, false, false] rfl rfl (by kernel_rfl) (fun _ _ _ h => h) (Or.inl ⟨by rfl, ?_⟩) ?_ ?_
                    rotate_left
                    · intro w'
                      go_simp
                      with_reducible rfl
                    rotate_left
                    · simp only [Act.put, List.setIfInBounds_toArray, List.set_cons_zero, List.set_cons_succ, i64_w, i32_w]
                      rfl
                    refine take_ (i := 12) (N := some 147) (v := ?_) (a' := ?_) #[true, true, true, true, true, true, true, true, true, true, true, true, true, false, false, false, false, false, false] rfl rfl (by kernel_rfl) (fun _ _ _ h => h) (Or.inl ⟨by rfl, ?_⟩) hHeld ?_ ?_
                    rotate_left
                    · rintro w' ⟨hs0_, hs1_, hs2_, hs3_⟩
                      go_simp
                      with_reducible rfl
                    rotate_left
                    · simp only [Act.put, List.setIfInBounds_toArray, List.set_cons_zero, List.set_cons_succ, i64_w, i32_w]
                      rfl
                    refine pure_ (i := 13) (N := some 148) (v := ?_) (a' := ?_) #[true, true, true, true, true, true, true, true, true, true, true, true, true, true, false, false, false, false, false] rfl rfl (by kernel_rfl) (fun _ _ _ h => h) (Or.inl ⟨by rfl, ?_⟩) ?_ ?_
                    rotate_left
                    · intro w'
                      go_simp
                      with_reducible rfl
                    rotate_left
                    · simp only [Act.put, List.setIfInBounds_toArray, List.set_cons_zero, List.set_cons_succ, i64_w, i32_w]
                      rfl
                    refine pure_ (i := 14) (N := some 149) (v := ?_) (a' := ?_) #[true, true, true, true, true, true, true, true, true, true, true, true, true, true, true, false, false, false, false] rfl rfl (by kernel_rfl) (fun _ _ _ h => h) (Or.inl ⟨by rfl, ?_⟩) ?_ ?_
                    rotate_left
                    · intro w'
                      go_simp
                      with_reducible rfl
                    rotate_left
                    · simp only [Act.put, List.setIfInBounds_toArray, List.set_cons_zero, List.set_cons_succ, i64_w, i32_w]
                      rfl
                    refine pure_ (i := 15) (N := some 150) (v := ?_) (a' := ?_) #[true, true, true, true, true, true, true, true, true, true, true, true, true, true, true, true, false, false, false] rfl rfl (by kernel_rfl) (fun _ _ _ h => h) (Or.inl ⟨by rfl, ?_⟩) ?_ ?_
                    rotate_left
                    · intro w'
                      go_simp
                      with_reducible rfl
                    rotate_left
                    · simp only [Act.put, List.setIfInBounds_toArray, List.set_cons_zero, List.set_cons_succ, i64_w, i32_w]
                      rfl
                    have hH : ∀ p : Int, (fun w_ => w_.cell? (ad9.add a16) = some (.int .u32 r16) ∧ w_.cell? (ad9.add a7) = some (.int .u32 r7) ∧ Aside0 (Kd.R (Kd.int .u32) 24 w_ wB.heap.size (fun _ => True) (.slice (some ad9) vs.length c9) vs) ∧ Aside0 (Below wB.heap.size wB w_)) (wq.drew.alloc (.cells #[.int .u32 p] 24)) := fun p => by
                      have hb : Below wq.drew.heap.size wq.drew (wq.drew.alloc (.cells #[.int .u32 p] 24)) := below_alloc (Below.refl _ _) _
                      exact ⟨Lib.cell?_alloc_marked _ hHeld.1, Lib.cell?_alloc_marked _ hHeld.2.1, ⟨Kd.R_alloc hHeld.2.2.1.out _⟩, ⟨below_alloc hHeld.2.2.2.out _⟩⟩
                    refine one_ (i := 16) (N := some 151) #[true, true, true, true, true, true, true, true, true, true, true, true, true, true, true, true, true, false, false] rfl rfl (by kernel_rfl) (by decide) (fun K hK => ?_)
                    refine event_step (by rfl) (build43 _ (.tmp 150) _ rfl _ _ _ _ _) ?_
                    refine hK.out _ _ (hH _) (fun hHeld => ?_)
                    clear hK K hH
                    refine norm_ (a' := ?_) ?_ ?_
                    rotate_left
                    · show Act.put _ (some 151) _ = _
                      simp only [Act.put, List.setIfInBounds_toArray, List.set_cons_zero, List.set_cons_succ, i64_w, i32_w]
                      rfl
                    refine last_ (i := 17) (N := some 152) #[true, true, true, true, true, true, true, true, true, true, true, true, true, true, true, true, true, true, false] rfl rfl (by kernel_rfl) (by decide) (fun K hK => ?_)
                    refine Kd.R_append_step (Kd.int .u32) (w0 := wB) wB.heap.size (by rfl) (.tmp 135) (.tmp 151) 43 24 (.int .u32 0) 4 rfl Try.underlying43 info24 rfl (by decide) (by omega) (.slice (some ad9) vs.length c9) vs _ [.int .u32 _] (fun _ => True) (fun _ => False) rfl rfl rfl (fun _ hk => hk.elim) (fun _ _ => trivial) (Kd.R_drew HVq.out) (below_drew1 HBq.out) (below_drew1 HBq.out).size ?eL ?_
                    (case eL => have := HVL2.out; have := HT64.out; omega)
                    intro v2 w3 ho hb hg hat
                    have HO := Aside0.mk (R_eq ho (q := rd W (t : Int)) (by simp only [IntKind.wrap_u32]; have := HNY.out; omega))
                    have HB3 := Aside0.mk hb
                    clear ho hb hg hat
                    refine hK.out _ _ ?_
                    clear hK K
                    refine norm_ (a' := ?_) ?_ ?_
                    rotate_left
                    · show Act.put _ (some 152) _ = _
                      simp only [Act.put, List.setIfInBounds_toArray, List.set_cons_zero, List.set_cons_succ, i64_w, i32_w]
                      rfl
                    refine pure_ (i := 18) (N := some 9) (v := ?_) (a' := ?_) #[true, true, true, true, true, true, true, true, true, true, true, true, true, true, true, true, true, true, true] rfl rfl (by kernel_rfl) (fun _ _ _ h => h) (Or.inl ⟨by rfl, ?_⟩) ?_ ?_
                    rotate_left
                    · intro w'
                      go_simp
                      with_reducible rfl
                    rotate_left
                    · simp only [Act.put, List.setIfInBounds_toArray, List.set_cons_zero, List.set_cons_succ, i64_w, i32_w]
                      rfl
                    refine done_ (by kernel_rfl) ?_
                    clear w15 w2 w16 w7 z15 z2 z16 z7
                    have htl := HT64.out
                    go_wp2
                    go_roundw
                    case rel =>
                      refine ⟨t + 1, HT64.out, by go_num, ⟨?_⟩, HB3⟩
                      rw [take_step W t (by rw [HWL.out]; exact HT64.out), ← HVS.out]
                      exact HO.out
                    case measure => have := HT64.out; simp [intOf]; omega
                  · have ht64' : t = 64 := by omega
                    subst ht64'
                    have hvw : vs = W := by rw [HVS.out]; exact List.take_of_length_le (by rw [HWL.out]; decide)
                    subst hvw
                    clear ht64 ht16 ht HV HVS
                    have d1 : decide ((64 : Int) < 64) = false := rfl
                    have hSt := Kd.R_below HS.out HBt.out
                    have HSt := Aside0.mk hSt
                    clear hSt
                    have hc0 : wr.cell? ⟨gs, 0, none⟩ = some (.int .u32 (rd S 0)) := sum_cell HSt.out 0 (by decide)
                    have hc1 : wr.cell? ⟨gs, 1, none⟩ = some (.int .u32 (rd S 1)) := sum_cell HSt.out 1 (by decide)
                    have hc2 : wr.cell? ⟨gs, 2, none⟩ = some (.int .u32 (rd S 2)) := sum_cell HSt.out 2 (by decide)
                    have hc3 : wr.cell? ⟨gs, 3, none⟩ = some (.int .u32 (rd S 3)) := sum_cell HSt.out 3 (by decide)
                    have hc4 : wr.cell? ⟨gs, 4, none⟩ = some (.int .u32 (rd S 4)) := sum_cell HSt.out 4 (by decide)
                    have hc5 : wr.cell? ⟨gs, 5, none⟩ = some (.int .u32 (rd S 5)) := sum_cell HSt.out 5 (by decide)
                    have hc6 : wr.cell? ⟨gs, 6, none⟩ = some (.int .u32 (rd S 6)) := sum_cell HSt.out 6 (by decide)
                    have hc7 : wr.cell? ⟨gs, 7, none⟩ = some (.int .u32 (rd S 7)) := sum_cell HSt.out 7 (by decide)
                    go_wp2
                    go_quiet (fail)
                    go_wp2
                    go_quiet (fail)
                    go_wp2
                    clear hc0 hc1 hc2 hc3 hc4 hc5 hc6 hc7
                    generalize hwd_ : World.drewN (World.drewN wr _) _ = wD
                    have HBD : Aside0 (Below wB.heap.size wB wD) := ⟨by rw [← hwd_]; exact pw_below_drewN (pw_below_drewN HBt.out _) _⟩
                    have HVD : Aside0 (Kd.C (Kd.int .u32) wD A9 vs.length vs) := ⟨by rw [← hwd_]; exact Kd.C_drewN (Kd.C_drewN HC9.out _) _⟩
                    have HSD : Aside0 (Kd.R (Kd.int .u32) 24 wD wA.heap.size (fun _ => True) (.slice (some ⟨gs, 0, none⟩) 8 cs) S) := ⟨by rw [← hwd_]; exact Kd.R_drewN (Kd.R_drewN HSt.out _) _⟩
                    have HKD : Aside0 (Kd.C (Kd.int .u32) wD (some adk) 64 KS) := ⟨Kd.C_below (Kd.C_below HK2.out HB.out) HBD.out⟩
                    clear HSt HC9 HBt hwd_
                    have hvl : vs.length = 64 := HWL.out
                    rw [hvl] at HVD ⊢
                    obtain ⟨ad9, e9, _⟩ := Kd.at_int HVD.out 0 (by decide) (by decide)
                    cases e9
                    rw [show ((64 : Nat) : Int) = (64 : Int) from rfl]
                    clear hvl
                    go_loopw [15, 16, 17, 18, 19, 20, 21, 22, 23] (fun a c d e b f g h i wr => ∃ t : Nat, t ≤ 64 ∧ i = .int .i64 t ∧ a = .int .u32 (rd (roundsF vs S t) 0) ∧ c = .int .u32 (rd (roundsF vs S t) 2) ∧ d = .int .u32 (rd (roundsF vs S t) 3) ∧ e = .int .u32 (rd (roundsF vs S t) 4) ∧ b = .int .u32 (rd (roundsF vs S t) 1) ∧ f = .int .u32 (rd (roundsF vs S t) 5) ∧ g = .int .u32 (rd (roundsF vs S t) 6) ∧ h = .int .u32 (rd (roundsF vs S t) 7) ∧ Aside0 (Below wD.heap.size wD wr)) (fun _ _ _ _ _ _ _ _ i _ => 64 - (intOf i).toNat)
                    case atStart => exact ⟨0, by omega, rfl, rfl, rfl, rfl, rfl, rfl, rfl, rfl, rfl, ⟨Below.refl _ _⟩⟩
                    case round =>
                      obtain ⟨t, ht, rfl, rfl, rfl, rfl, rfl, rfl, rfl, rfl, rfl, HBr⟩ := hrel
                      obtain ⟨V, hV⟩ : ∃ V, V = roundsF vs S t := ⟨_, rfl⟩
                      have hVb : u32B V := by rw [hV]; exact roundsF_bd _ (by rw [HSQ.out]; exact blkN_bd start_bd _ _) _
                      have hVl : V.length = 8 := by rw [hV]; exact roundsF_len _ _ HSL.out _
                      by_cases ht64 : t < 64
                      · have hVn : roundsF vs S (t + 1) = roundF V (rd KS (t : Int)) (rd vs (t : Int)) := by rw [hV]; rfl
                        rw [← hV]
                        obtain ⟨_, e_, hck⟩ := Kd.at_int (Kd.C_below HKD.out HBr.out) (t : Int) (by omega) (by omega)
                        cases e_
                        obtain ⟨_, e_, hcw⟩ := Kd.at_int (Kd.C_below HVD.out HBr.out) (t : Int) (by omega) (by omega)
                        cases e_
                        rw [Int.toNat_natCast] at hck hcw
                        obtain ⟨kn, hkn⟩ : ∃ k, k = rd KS (t : Int) := ⟨_, rfl⟩
                        obtain ⟨xn, hxn⟩ : ∃ k, k = rd vs (t : Int) := ⟨_, rfl⟩
                        rw [← hkn, ← hxn] at hVn
                        rw [← hkn] at hck
                        rw [← hxn] at hcw
                        obtain ⟨x0, hx0⟩ : ∃ x, x = rd V 0 := ⟨_, rfl⟩
                        obtain ⟨b00, b01⟩ := hVb 0
                        rw [← hx0] at b00 b01 ⊢
                        have HX0 := Aside0.mk hx0
                        clear hx0
                        obtain ⟨x1, hx1⟩ : ∃ x, x = rd V 1 := ⟨_, rfl⟩
                        obtain ⟨b10, b11⟩ := hVb 1
                        rw [← hx1] at b10 b11 ⊢
                        have HX1 := Aside0.mk hx1
                        clear hx1
                        obtain ⟨x2, hx2⟩ : ∃ x, x = rd V 2 := ⟨_, rfl⟩
                        obtain ⟨b20, b21⟩ := hVb 2
                        rw [← hx2] at b20 b21 ⊢
                        have HX2 := Aside0.mk hx2
                        clear hx2
                        obtain ⟨x3, hx3⟩ : ∃ x, x = rd V 3 := ⟨_, rfl⟩
                        obtain ⟨b30, b31⟩ := hVb 3
                        rw [← hx3] at b30 b31 ⊢
                        have HX3 := Aside0.mk hx3
                        clear hx3
                        obtain ⟨x4, hx4⟩ : ∃ x, x = rd V 4 := ⟨_, rfl⟩
                        obtain ⟨b40, b41⟩ := hVb 4
                        rw [← hx4] at b40 b41 ⊢
                        have HX4 := Aside0.mk hx4
                        clear hx4
                        obtain ⟨x5, hx5⟩ : ∃ x, x = rd V 5 := ⟨_, rfl⟩
                        obtain ⟨b50, b51⟩ := hVb 5
                        rw [← hx5] at b50 b51 ⊢
                        have HX5 := Aside0.mk hx5
                        clear hx5
                        obtain ⟨x6, hx6⟩ : ∃ x, x = rd V 6 := ⟨_, rfl⟩
                        obtain ⟨b60, b61⟩ := hVb 6
                        rw [← hx6] at b60 b61 ⊢
                        have HX6 := Aside0.mk hx6
                        clear hx6
                        obtain ⟨x7, hx7⟩ : ∃ x, x = rd V 7 := ⟨_, rfl⟩
                        obtain ⟨b70, b71⟩ := hVb 7
                        rw [← hx7] at b70 b71 ⊢
                        have HX7 := Aside0.mk hx7
                        clear hx7
                        have HVN := Aside0.mk hVn
                        have HT64 := Aside0.mk ht64
                        have t64 : (t : Int) < 64 := by omega
                        have hn1 : Go.bits .xor .u32 IntKind.u32.max x4 = 4294967295 - x4 := by
                          have := C.u32_not x4.toNat (by omega)
                          rw [Int.toNat_of_nonneg b40] at this
                          exact this
                        have HN1 := Aside0.mk hn1
                        clear hV hVb hVl hVn hkn hxn ht64 ht hn1
                        have d1 : decide ((t : Int) < 64) = true := decide_eq_true t64
                        have wsub : IntKind.u32.wrap (4294967295 - x4) = 4294967295 - x4 := by rw [IntKind.wrap_u32]; omega
                        go_wp2
                        go_quiet ((go_at_call 22; refine (brazierref02_down.calls _ _ (rot _ _) _ (down_is _ _ (by decide) (by decide))).mono ?_; rintro e w' ⟨rfl, ⟨⟨nd, rfl⟩⟩⟩; first | exact ⟨rfl, _, World.drewN_drewN _ _ _⟩ | exact ⟨rfl, _, Eq.trans (World.drewN_drewN _ _ _) (congrArg (World.drewN _) (Nat.add_assoc _ _ _))⟩))
                        go_wp2_with (go_at_call 22; refine (brazierref02_down.calls _ _ (rot _ _) _ (down_is _ _ (by decide) (by decide))).mono ?_; rintro e w' ⟨rfl, ⟨nd, rfl⟩⟩)
                        go_roundw
                        case rel =>
                          refine ⟨t + 1, HT64.out, by go_num, ?_, by rw [HVN.out, HX1.out]; rfl, by rw [HVN.out, HX2.out]; rfl, ?_, by rw [HVN.out, HX0.out]; rfl, by rw [HVN.out, HX4.out]; rfl, by rw [HVN.out, HX5.out]; rfl, by rw [HVN.out, HX6.out]; rfl, ⟨?_⟩⟩
                          · rw [HVN.out, ← round_0 HX0.out HX1.out HX2.out HX4.out HX5.out HX6.out HX7.out HN1.out]
                          · rw [HVN.out, ← round_4 HX3.out HX4.out HX5.out HX6.out HX7.out HN1.out]
                          · exact pw_below_drewN HBr.out _
                        case measure => have := HT64.out; simp [intOf]; omega
                      · have ht64' : t = 64 := by omega
                        subst ht64'
                        clear ht64 ht
                        rw [← hV]
                        have d1 : decide ((64 : Int) < 64) = false := rfl
                        have HV_ := Aside0.mk hV
                        have HVL := Aside0.mk hVl
                        have HBA := Aside0.mk (below_step (below_step HB.out HBD.out) HBr.out)
                        have HSR := Aside0.mk (Kd.R_below HSD.out HBr.out)
                        clear hV hVb hVl
                        rw [show ((64 : Nat) : Int) = (64 : Int) from rfl]
                        go_wp2
                        rw [list8 V HVL.out]
                        obtain ⟨g250, hg⟩ : ∃ g, g = wr.heap.size := ⟨_, rfl⟩
                        obtain ⟨wE, hwE⟩ : ∃ W_, W_ = wr.alloc (.cells (u32s V) 24) := ⟨_, rfl⟩
                        rw [← hg, ← hwE]
                        have E250 : Aside0 (wE.heap[g250]? = some (.cells (u32s V) 24 (0, 0))) := ⟨by rw [hwE, hg]; exact blk_new wr _⟩
                        have HSE : Aside0 (Kd.R (Kd.int .u32) 24 wE wA.heap.size (fun _ => True) (.slice (some ⟨gs, 0, none⟩) 8 cs) (addF S V 0)) := ⟨by rw [hwE]; exact Kd.R_alloc HSR.out _⟩
                        have HBE : Aside0 (Below wA.heap.size wA wE) := ⟨by rw [hwE]; exact below_alloc HBA.out _⟩
                        have NE : Aside0 (gs ≠ g250) := ⟨by have h_ := own_lt (own_of_R3 HSR.out) gs rfl; omega⟩
                        clear hg hwE HSR HBA HBr HVD HKD HSD HBD
                        go_loopw [252] (fun i wr => ∃ k : Nat, k ≤ 8 ∧ i = .int .i64 k ∧ Aside0 (wr.heap[g250]? = some (.cells (u32s V) 24 (0, 0))) ∧ Aside0 (Kd.R (Kd.int .u32) 24 wr wA.heap.size (fun _ => True) (.slice (some ⟨gs, 0, none⟩) 8 cs) (addF S V k)) ∧ Aside0 (Below wA.heap.size wA wr)) (fun i _ => 8 - (intOf i).toNat)
                        case atStart => exact ⟨0, by omega, rfl, E250, HSE, HBE⟩
                        case round =>
                          clear E250 HSE HBE
                          obtain ⟨k, hk, rfl, E250, HSE, HBE⟩ := hrel
                          by_cases hk8 : k < 8
                          · obtain ⟨Y, hY⟩ : ∃ Y, Y = addF S V k := ⟨_, rfl⟩
                            have hYn : addF S V (k + 1) = Y.set k ((rd Y (k : Int) + rd V (k : Int)) % 4294967296) := by rw [hY]; rfl
                            rw [← hY] at HSE
                            have hc1 := (blk_cell E250.out k).trans (u32s_get V k (by rw [HVL.out]; exact hk8))
                            have hc2 := sum_cell HSE.out k hk8
                            have hf2 := (Kd.R_celln (d := (0 : Int)) HSE.out (k : Int) (by omega) (by omega)).2
                            rw [Int.toNat_natCast] at hf2
                            have HYN := Aside0.mk hYn
                            have HK8 := Aside0.mk hk8
                            have d1 : decide ((k : Int) < 8) = true := decide_eq_true (by omega)
                            have k8 : (k : Int) < 8 := by omega
                            clear hY hYn hk8 hk
                            go_wp2
                            go_roundw
                            case rel =>
                              have hp := Kd.R_putn HSE.out (k : Int) ((rd Y (k : Int) + rd V (k : Int)) % 4294967296)
                              rw [Int.toNat_natCast] at hp
                              refine ⟨k + 1, HK8.out, by go_num, ⟨(heap_setCell_other _ _ _ _ (fun e_ => NE.out e_.symm)).trans E250.out⟩, ⟨by rw [HYN.out]; exact hp⟩, ⟨below_set HBE.out (own_base (own_of_R3 HSE.out) gs rfl)⟩⟩
                            case measure => have := HK8.out; simp [intOf]; omega
                          · have hk8' : k = 8 := by omega
                            subst hk8'
                            clear hk8 hk
                            have hb1 : blkN START es (n + 1) = addF S V 8 := by
                              rw [blkN, ← HSQ.out, ← HBLK.out, ← addF_comm V S HVL.out HSL.out, HV_.out, HW.out]
                              rfl
                            have HB1_ := Aside0.mk hb1
                            have hlt0 := HLT0.out
                            have hab1 := HAB.out
                            clear hb1
                            rw [show ((8 : Nat) : Int) = (8 : Int) from rfl]
                            have d1 : decide ((8 : Int) < 8) = false := rfl
                            go_wp2
                            go_roundw
                            case rel =>
                              have ha0 := HA0.out
                              exact ⟨n + 1, by omega, by congr 1; omega, ⟨by rw [HB1_.out]; exact HSE.out⟩, HBE⟩
                            case measure => simp [intOf]; omega
            · have hq : 64 * n = es.length := by omega
              have hnq : n = es.length / 64 := by omega
              obtain ⟨T, hT⟩ : ∃ T, T = blkN START es n := ⟨_, rfl⟩
              rw [← hT] at HS
              have hTe : outL T 8 = shaF l := by rw [hT, outL_is, sha_all l, ← HESQ.out, hnq]
              have HTE := Aside0.mk hTe
              have HBF := Aside0.mk (below_step HBw.out HB.out)
              obtain ⟨a0, ha0⟩ : ∃ a0, a0 = 64 * n := ⟨_, rfl⟩
              rw [← ha0] at hlt ⊢
              have hlt' : ¬ a0 < es.length := hlt
              clear hT hTe hq hnq ha0 hn
              go_wp2
              go_loopw [28, 267] (fun v i wr => ∃ k : Nat, k ≤ 8 ∧ i = .int .i64 k ∧ Aside0 (Kd.R (Kd.int .u8) 5 wr wB.heap.size (fun _ => True) v (outL T k)) ∧ Aside0 (Below wB.heap.size wB wr)) (fun _ i _ => 8 - (intOf i).toNat)
              case atStart => exact ⟨0, by omega, rfl, ⟨Kd.R_nil _ _ _ _ _⟩, ⟨Below.refl _ _⟩⟩
              case round =>
                obtain ⟨k, hk, rfl, HV, HBt⟩ := hrel
                obtain ⟨A9, c9, rfl, hc9, _⟩ := Kd.R_reads HV.out
                obtain ⟨vs, hvs⟩ : ∃ vs, vs = outL T k := ⟨_, rfl⟩
                have hvl : vs.length = 4 * k := by rw [hvs, outL_len]
                rw [← hvs] at HV hc9 ⊢
                have HVS := Aside0.mk hvs
                have HVL := Aside0.mk hvl
                clear hvs hvl hc9
                by_cases hk8 : k < 8
                · have hc1 := sum_cell (Kd.R_below HS.out HBt.out) k hk8
                  have d1 : decide ((k : Int) < 8) = true := decide_eq_true (by omega)
                  have k8 : (k : Int) < 8 := by omega
                  have HK8 := Aside0.mk hk8
                  obtain ⟨x, hx⟩ : ∃ x, x = rd T (k : Int) := ⟨_, rfl⟩
                  rw [← hx] at hc1
                  have HX := Aside0.mk hx
                  clear hx
                  go_wp2_with ((with_reducible refine gate_builtin (b := .append) (xs := #[.tmp 271, .tmp 283]) rfl ?_); at_builtin; refine Kd.R_append_row (Value.int .u8) (0 : Int) (h1 := fun _ => rfl) (w0 := wB) wB.heap.size rfl (.tmp 271) (.tmp 283) 22 5 (.int .u8 0) 1 rfl Try.underlying22 info5 rfl (by decide) (.slice A9 vs.length c9) vs [x / 16777216 % 256, x / 65536 % 256, x / 256 % 256, x % 256] (some ⟨wr.heap.size, 0, none⟩) 4 4 (fun _ => True) rfl rfl (fun _ _ => trivial) (Kd.R_alloc HV.out _) (C_lit [x / 16777216 % 256, x / 65536 % 256, x / 256 % 256, x % 256] (0, 0) (by simp)) (below_alloc HBt.out _) (below_alloc HBt.out _).size (by have h_ := HVL.out; omega) ?_; intro v2_ w3 ho hb hg hat; have HO : Aside0 (Kd.R (Kd.int .u8) 5 w3 wB.heap.size (fun _ => True) v2_ (vs ++ [x / 16777216 % 256, x / 65536 % 256, x / 256 % 256, x % 256])) := ⟨ho⟩; have HB3 := Aside0.mk hb; clear ho hb hg hat)
                  go_roundw
                  case rel =>
                    refine ⟨k + 1, HK8.out, by go_num, ⟨?_⟩, HB3⟩
                    rw [outL, ← HVS.out, ← HX.out]
                    exact HO.out
                  case measure => simp [intOf]; omega
                · have hk8' : k = 8 := by omega
                  subst hk8'
                  have hvs2 : vs = shaF l := by rw [HVS.out, HTE.out]
                  have HV2 := Aside0.mk hvs2
                  clear hvs2 hk8 hk
                  have d1 : decide ((8 : Int) < 8) = false := rfl
                  go_wp2
                  go_ret
                  refine ⟨_, rfl, ?_, below_step HBF.out HBt.out⟩
                  rw [← HV2.out]
                  exact Kd.R_lower HV.out (by have h_ := HBF.out.size; exact h_)

end Go.Proofs.Ytijjopioamdahaa.D
