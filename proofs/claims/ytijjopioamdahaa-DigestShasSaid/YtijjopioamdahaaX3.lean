/- The walks: for each Go function a Lean function with the same answers, and the proof that the Go code comes to them; no condition beyond what each contract states. Written by this session's own program xprint.py (over the kit's print program); not one of print.sh's texts. -/
import Derived.Test.YtijjopioamdahaaX0
import Derived.Test.YtijjopioamdahaaX1
namespace Go.Proofs.Ytijjopioamdahaa.X
open Go.RowKit Go.Proofs.YtijjopioamdahaaW.PrintWords Go.Proofs.YtijjopioamdahaaW.PrintLast Go.Proofs.YtijjopioamdahaaW.PrintMore
attribute [local go_sem] max2_int min2_int max_two min_two max_three min_three max_four min_four   -- for this text's walks alone
set_option linter.unusedVariables false
set_option linter.unusedSimpArgs false

/-! ### brazierref01_Hex: function 16 -/
def brazierref01_Hex.f (l0 : List Int) : Option ByteArray := if byteB l0 = true ∧ l0.length ≤ 1000000000000 then some (strOfNums (hexL l0)) else none
theorem hex_slice (n : Nat) (h : n < 16) (k : IntKind) (W : World) :
    (Instr.slice 9 (.string ⟨#[48, 49, 50, 51, 52, 53, 54, 55, 56, 57, 97, 98, 99, 100, 101, 102]⟩) (some (.int k (n : Int))) (some (.int k ((n : Int) + 1))) none).run Try.prog W = .ok (.string (strOfNums [hexD n])) W := by
  have hs : hexDigits.size = 16 := by decide +kernel
  have e := run_slice_string W 9 hexDigits k k (n : Int) ((n : Int) + 1) Try.underlying9 (by omega) (by omega) (by rw [hs]; omega)
  rw [show ((n : Int) + 1).toNat = n + 1 from by omega, Int.toNat_natCast, hexDigits_cut n h] at e
  exact e
set_option maxHeartbeats 1000000 in
set_option maxRecDepth 100000 in
theorem brazierref01_Hex.quiet (A0 : Option Addr) (c0 : Nat) (l0 : List Int) (r : ByteArray) (w : World) (hr0 : Kd.C (Kd.int .u8) w A0 l0.length l0) (hc0 : l0.length ≤ c0) (h : brazierref01_Hex.f l0 = some r) :
    Calls Try.prog 16 #[.slice A0 l0.length c0] w fun e w' => e = .returned (.string r) ∧ Drawn0 w w' := by
  unfold brazierref01_Hex.f at h
  by_cases hb : byteB l0 = true ∧ l0.length ≤ 1000000000000
  · rw [if_pos hb] at h
    obtain rfl := Option.some.inj h
    obtain ⟨hb, hl⟩ := hb
    have HB := Aside0.mk hb
    have HR := Aside0.mk hr0
    clear h hb hr0
    go_enter Try.func16, Try.ntmps16
    go_wp2
    go_loopw [4, 9] (fun s i wr => ∃ k : Nat, k ≤ l0.length ∧ i = .int .i64 k ∧ s = .string (strOfNums (hexL (l0.take k))) ∧ Drawn0 w wr) (fun _ i _ => l0.length - (intOf i).toNat)
    case atStart => exact ⟨0, Nat.zero_le _, rfl, rfl, Drawn0.refl _⟩
    case round =>
      obtain ⟨k, hk, rfl, rfl, hd⟩ := hrel
      obtain ⟨n, rfl⟩ := hd.out
      clear hd
      by_cases hlt : k < l0.length
      · obtain ⟨ad, rfl, hx⟩ := Kd.at_int HR.out (k : Int) (by omega) (by omega)
        obtain ⟨hc1, hc2⟩ := byteB_rd HB.out k hlt
        obtain ⟨c, hc⟩ : ∃ c, rd l0 (k : Int) = c := ⟨_, rfl⟩
        rw [hc] at hx hc1 hc2
        have HC := Aside0.mk hc
        clear hc
        simp only [Int.toNat_natCast] at hx
        have q1 : Int.tdiv c 16 = c / 16 := Int.tdiv_eq_ediv_of_nonneg hc1
        have q2 : Int.tmod c 16 = c % 16 := Int.tmod_eq_emod_of_nonneg hc1
        have q3 : IntKind.u8.wrap (c / 16) = c / 16 := by rw [IntKind.wrap_u8]; omega
        have q4 : IntKind.u8.wrap (c / 16 + 1) = c / 16 + 1 := by rw [IntKind.wrap_u8]; omega
        have q5 : IntKind.u8.wrap (c % 16 + 1) = c % 16 + 1 := by rw [IntKind.wrap_u8]; omega
        obtain ⟨m1, e1, l1⟩ : ∃ m : Nat, c / 16 = (m : Int) ∧ m < 16 := ⟨(c / 16).toNat, by omega, by omega⟩
        obtain ⟨m2, e2, l2⟩ : ∃ m : Nat, c % 16 = (m : Int) ∧ m < 16 := ⟨(c % 16).toNat, by omega, by omega⟩
        have s1 := hex_slice m1 l1 .u8
        have s2 := hex_slice m2 l2 .u8
        rw [e1] at q1 q3 q4
        rw [e2] at q2 q5
        have E1 := Aside0.mk e1
        have E2 := Aside0.mk e2
        clear e1 e2 l1 l2
        have z1 : (strOfNums [hexD m1]).size + (strOfNums [hexD m2]).size ≤ 9223372036854775807 := by rw [strOfNums_size, strOfNums_size]; simp
        have z2 : (strOfNums (hexL (List.take k l0))).size + (strOfNums [hexD m1] ++ strOfNums [hexD m2]).size ≤ 9223372036854775807 := by
          rw [← str_app, strOfNums_size, strOfNums_size, hexL_length, List.length_take]; simp; omega
        go_wp2
        go_quiet (fail)
        go_wp2
        go_roundw
        case rel =>
          refine ⟨k + 1, by omega, by go_num, ?_, ⟨⟨n + nq, rfl⟩⟩⟩
          rw [take_rd l0 k hlt, hexL_append, str_app, HC.out]
          simp only [hexL]
          rw [E1.out, E2.out, ← str_app]
          rfl
        case measure => simp [intOf]; omega
      · have t1 : decide (k < l0.length) = false := by simpa using hlt
        have t2 : decide ((k : Int) < (l0.length : Int)) = false := decide_eq_false (by omega)
        go_wp2
        go_ret
        refine ⟨?_, ⟨⟨n, rfl⟩⟩⟩
        rw [List.take_of_length_le (by omega)]
        rfl
  · rw [if_neg hb] at h; cases h
theorem brazierref01_Hex.calls (A0 : Option Addr) (c0 : Nat) (l0 : List Int) (r : ByteArray) (w : World) (hr0 : Kd.C (Kd.int .u8) w A0 l0.length l0) (hc0 : l0.length ≤ c0) (h : brazierref01_Hex.f l0 = some r) :
    Calls Try.prog 16 #[.slice A0 l0.length c0] w fun e w' => e = .returned (.string r) ∧ Below w.heap.size w w' :=
  (brazierref01_Hex.quiet A0 c0 l0 r w hr0 hc0 h).mono fun _ _ hq => ⟨hq.1, hq.2.below⟩

-- NOT PRINTED: function 4 (brazierlaw02_DigestShas)

-- NOT PRINTED: function 5 (brazierlaw02_DigestMore)

-- NOT PRINTED: function 6 (brazierlaw02_DigestEnds)

-- NOT PRINTED: function 7 (brazierlaw02_DigestTurned)

-- NOT PRINTED: function 21 (digest_Hash_Len)

-- NOT PRINTED: function 8 (brazierlaw02_DigestPieces)

end Go.Proofs.Ytijjopioamdahaa.X
