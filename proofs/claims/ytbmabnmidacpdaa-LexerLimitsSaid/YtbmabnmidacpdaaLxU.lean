import Derived.Test.YtbmabnmidacpdaaProg
import Derived.Below
import Derived.Deep.Draws
import Derived.Deep.AppendLies
import Derived.Maps.AppendAt
import Derived.OwnWalk
import Derived.Laws.BytesArg
import Derived.Laws.MakeOwn
import Derived.Laws.OwnMore
import Derived.Deep.OwnRows
import Derived.Tactics
import Derived.Lib.ConvBytes
import Derived.Laws.Slices
import Derived.WalkKit
import Derived.KernelRfl
import Derived.RowKit3
import Derived.Deep.LoopGhost
import Derived.Deep.QuietTactic
import Derived.BigQuiet
import Derived.WideLaws
import Derived.Deep.DeepCutAuto
import Derived.Deep.CutBlock
import Derived.Deep.RegionHeld3
import Derived.Laws.Rows
import Derived.Lib.AppendStr
import Derived.ArgAppend
import Derived.Laws.IdiomCopy
import Derived.OrdersHeld
import Derived.Laws.BitsLemmas
import Derived.RowKit
import Derived.Test.YtbmabnmidacpdaaWWords
import Derived.Test.YtbmabnmidacpdaaWLast
import Derived.Test.YtbmabnmidacpdaaWTab
import Derived.Test.YtbmabnmidacpdaaWQPut
import Derived.Test.YtbmabnmidacpdaaWApart
import Derived.Test.YtbmabnmidacpdaaWArr
import Derived.Test.YtbmabnmidacpdaaWZeros
import Derived.Test.YtbmabnmidacpdaaWFoot
import Derived.Test.YtbmabnmidacpdaaWKept
import Derived.Test.YtbmabnmidacpdaaWShare
import Derived.Test.YtbmabnmidacpdaaWN
import Derived.Test.YtbmabnmidacpdaaWEqStruct
import Derived.Test.YtbmabnmidacpdaaWGuard
import Derived.Test.YtbmabnmidacpdaaWNEv
import Derived.Test.YtbmabnmidacpdaaWMore
import Derived.Test.YtbmabnmidacpdaaX1
import Derived.Test.YtbmabnmidacpdaaX2
import Derived.Test.YtbmabnmidacpdaaX3
import Derived.Test.YtbmabnmidacpdaaX4
import Derived.Test.YtbmabnmidacpdaaSh
import Derived.Test.YtbmabnmidacpdaaLxA
import Derived.Test.YtbmabnmidacpdaaLxB
import Derived.Test.YtbmabnmidacpdaaLxC
import Derived.Test.YtbmabnmidacpdaaLxD
import Derived.Test.YtbmabnmidacpdaaLxP
import Derived.Test.YtbmabnmidacpdaaHw
import Derived.Test.YtbmabnmidacpdaaLxE
import Derived.Test.YtbmabnmidacpdaaLxS
import Derived.Test.YtbmabnmidacpdaaLxT
import Derived.DataShut
import Derived.Deep.RegionLawGrows
import Derived.Deep.Upon
import Derived.Deep.MidRow
namespace Go.Proofs.Ytbmabnmidacpdaa.L
open Go.RowKit Go.Proofs.Ytbmabnmidacpdaa.X Go.Proofs.YtbmabnmidacpdaaW.PrintWords Go.Proofs.YtbmabnmidacpdaaW.PrintLast Go.Proofs.YtbmabnmidacpdaaW.PrintMore
attribute [local go_sem] max2_int min2_int max_two min_two max_three min_three max_four min_four   -- for this text's walks alone
set_option linter.unusedVariables false
set_option linter.unusedSimpArgs false
def RAllPost (s : ByteArray) (w : World) (r : R) (e : Ending) (w' : World) : Prop := match r with
  | .err c off => e = .returned (.tuple #[.slice none 0 0, .int .i64 c, .int .i64 (off : Int)])
  | .ok l => ∃ v, e = .returned (.tuple #[v, .int .i64 0, .int .i64 0]) ∧ Kd.R k33 33 w' w.heap.size (fun _ => True) v (l.map (tk33 s))
theorem refletter_is (c : UInt8) {b : Bool} (h : ltr c = b) (w : World) : Calls Try.prog 26 #[.int .u8 (c.toNat : Int)] w fun e w' => e = .returned (.bool b) ∧ Drawn0 w w' :=
  brazierref07_letter.calls (c.toNat : Int) b w (by rw [refletter_f, h])
theorem refdigit_is (c : UInt8) {b : Bool} (h : dig c = b) (w : World) : Calls Try.prog 27 #[.int .u8 (c.toNat : Int)] w fun e w' => e = .returned (.bool b) ∧ Drawn0 w w' :=
  brazierref07_digit.calls (c.toNat : Int) b w (by rw [refdigit_f, h])
theorem rst_at {s : ByteArray} {n k : Nat} (h : n + k < s.size) (hl : k < (rst s n).length) : bt s ((n + k : Nat) : Int) = (((rst s n)[k]'hl).toNat : Int) := by
  exact (rst_get (List.getElem?_eq_getElem hl)).2
theorem id_scan (s : ByteArray) (i : Nat) (hi : i ≤ s.size) : ∃ E : Nat, i + idL (rst s i) = E ∧ i ≤ E ∧ E ≤ s.size ∧ (∀ p, i ≤ p → p < E → ∃ c : UInt8, bt s (p : Int) = (c.toNat : Int) ∧ idc c = true) ∧ (E = s.size ∨ (E < s.size ∧ ∃ c : UInt8, bt s (E : Int) = (c.toNat : Int) ∧ idc c = false)) := by
  have hb := id_bd (rst s i)
  rw [rst_len] at hb
  refine ⟨i + idL (rst s i), rfl, by omega, by omega, fun p h1 h2 => ?_, ?_⟩
  · have hl : p - i < (rst s i).length := by rw [rst_len]; omega
    have h3 := rst_at (s := s) (n := i) (k := p - i) (by omega) hl
    rw [show i + (p - i) = p from by omega] at h3
    exact ⟨_, h3, id_get _ _ (by omega) hl⟩
  · by_cases he : i + idL (rst s i) = s.size
    · exact .inl he
    · have hl : idL (rst s i) < (rst s i).length := by rw [rst_len]; omega
      exact .inr ⟨by omega, _, rst_at (by omega) hl, id_end _ hl⟩
theorem bcell {W w1 : World} (hb : Below W.heap.size W w1) : (∀ b o, b < W.heap.size → w1.cell? ⟨b, o, none⟩ = W.cell? ⟨b, o, none⟩) ∧ (∀ b o, b < W.heap.size → w1.frozen? ⟨b, o, none⟩ = W.frozen? ⟨b, o, none⟩) :=
  ⟨fun b o h => hb.cell (p := ⟨b, o, none⟩) h, fun b o h => hb.frozen (p := ⟨b, o, none⟩) h⟩
theorem ba_of (X : ByteArray) (l : List UInt8) (h : X.data.toList = l) : X = ⟨l.toArray⟩ := by
  cases X
  simp at h
  subst h
  simp
theorem ba_size (l : List UInt8) : (⟨l.toArray⟩ : ByteArray).size = l.length := by
  show l.toArray.size = l.length
  simp
theorem ba_list (l : List UInt8) : (⟨l.toArray⟩ : ByteArray).data.toList = l := by simp
theorem bytesWorld_below (w : World) (e : TypeId) (s : ByteArray) : Below w.heap.size w (Lib.bytesWorld w e s) :=
  ⟨rfl, rfl, rfl, by rw [Lib.bytesWorld_size]; exact Nat.le_succ _, fun k hk => Lib.bytesWorld_at_old w e s k hk⟩
theorem num_bad {l : List UInt8} {j : Nat} (h : 2147483647 < numG 0 (l.take j)) (hd : (l.take j).all dig = true) : numL l = none := by
  by_cases ha : l.all dig = true
  · refine numL_none_v ?_
    have h1 : l = l.take j ++ l.drop j := (List.take_append_drop j l).symm
    have h2 : (l.drop j).all dig = true := by
      rw [h1, List.all_append, Bool.and_eq_true] at ha
      exact ha.2
    have h3 : numV l = numG (numG 0 (l.take j)) (l.drop j) := by
      show numG 0 l = _
      conv => lhs; rw [h1]
      unfold numG
      rw [List.foldl_append]
    have h4 := numG_mono (l.drop j) (numG 0 (l.take j)) (numG_nn _ _ (by decide) hd) h2
    omega
  · exact numL_none_d ha
theorem num_dig {l : List UInt8} {j : Nat} (hj : j < l.length) (h : dig l[j] = false) : numL l = none := by
  refine numL_none_d fun ha => ?_
  rw [List.all_eq_true] at ha
  have := ha l[j] (List.getElem_mem hj)
  rw [h] at this
  cases this
theorem num_step {l : List UInt8} {j : Nat} (hj : j < l.length) : numG 0 (l.take (j + 1)) = 10 * numG 0 (l.take j) + ((l[j].toNat : Int) - 48) := by
  rw [List.take_succ_eq_append_getElem hj, numG_snoc]
theorem all_step {l : List UInt8} {j : Nat} (hj : j < l.length) (h : (l.take j).all dig = true) (h2 : dig l[j] = true) : (l.take (j + 1)).all dig = true := by
  rw [List.take_succ_eq_append_getElem hj, List.all_append, h]
  simp [h2]
theorem tok_num {l : List UInt8} {c : UInt8} {n : Nat} (hn : idL l = n) (h0 : n ≠ 0) (hc : l.head? = some c) (hd : dig c = true) {v : Int} (h : numL (l.take n) = some v) : tokL l = .ok 2 n v := by
  unfold tokL
  rw [hn, if_neg h0, if_pos (by rw [hc]; exact hd), h]
theorem tok_nonum {l : List UInt8} {c : UInt8} {n : Nat} (hn : idL l = n) (h0 : n ≠ 0) (hc : l.head? = some c) (hd : dig c = true) (h : numL (l.take n) = none) : tokL l = .err 11 := by
  unfold tokL
  rw [hn, if_neg h0, if_pos (by rw [hc]; exact hd), h]
theorem tok_word {l : List UInt8} {c : UInt8} {n : Nat} (hn : idL l = n) (h0 : n ≠ 0) (hc : l.head? = some c) (hd : dig c = false) (h : l.take n ∈ wordsL) : tokL l = .ok 3 n 0 := by
  unfold tokL
  rw [hn, if_neg h0, if_neg (by rw [hc]; simp [hd]), if_pos h]
theorem tok_name {l : List UInt8} {c : UInt8} {n : Nat} (hn : idL l = n) (h0 : n ≠ 0) (hc : l.head? = some c) (hd : dig c = false) (h : ¬ l.take n ∈ wordsL) : tokL l = if 64 < n then .err 2 else .ok 1 n 0 := by
  unfold tokL
  rw [hn, if_neg h0, if_neg (by rw [hc]; simp [hd]), if_neg h]
theorem tok_sign {l : List UInt8} (hn : idL l = 0) : tokL l = if signL l = 0 then .err 10 else .ok 4 (signL l) 0 := by
  unfold tokL
  rw [if_pos hn]
def wsL : List ByteArray := signsL.map fun l => ⟨l.toArray⟩
theorem signs_calls (w : World) : Calls Try.prog 28 #[] w fun e w' => ∃ A c, e = .returned (.slice A 29 c) ∧ 29 ≤ c ∧ Kd.R Kd.string 9 w' w.heap.size (fun _ => True) (.slice A 29 c) wsL ∧ Below w.heap.size w w' :=
  (brazierref07_Signs.calls wsL w rfl).mono fun e w' hp => by
    obtain ⟨v, he, hr, hb⟩ := hp
    obtain ⟨A, c, rfl, hc, _⟩ := Kd.R_reads hr
    exact ⟨A, c, he, hc, hr, hb⟩
theorem ws_at (j : Nat) (hj : j < 29) : ∃ y : ByteArray, rdOf ByteArray.empty wsL (j : Int) = y ∧ signsL.take (j + 1) = signsL.take j ++ [y.data.toList] := by
  have h2 : j < signsL.length := hj
  have h1 : j < wsL.length := by unfold wsL; rw [List.length_map]; exact h2
  refine ⟨wsL[j], ?_, ?_⟩
  · unfold rdOf
    rw [Int.toNat_natCast, List.getD_eq_getElem?_getD, List.getElem?_eq_getElem h1]
    rfl
  · have h4 : wsL[j] = ⟨(signsL[j]).toArray⟩ := by
      show (signsL.map fun l => (⟨l.toArray⟩ : ByteArray))[j] = _
      exact List.getElem_map _
    have h3 : wsL[j].data.toList = signsL[j] := by rw [h4]
    rw [h3]
    exact List.take_succ_eq_append_getElem h2
def sgB (l : List UInt8) (j : Nat) : ByteArray := ⟨(sgF l (signsL.take j)).toArray⟩
theorem skip_is (s : ByteArray) (o : Nat) (w : World) (hs : s.size ≤ 1000000000) (ho : o ≤ s.size) {x : Int} (hx : skP (rst s o) o = x) :
    Calls Try.prog 25 #[.string s, .int .i64 (o : Int)] w fun e w' => e = .returned (.int .i64 x) ∧ Drawn0 w w' := by
  have h := skip_calls s o w hs ho
  rw [hx] at h
  exact h
set_option maxHeartbeats 16000000 in
set_option maxRecDepth 100000 in
theorem rall_calls (s : ByteArray) (w : World) (hs : s.size ≤ 1000000000) :
    Calls Try.prog 12 #[.string s] w fun e w' => RAllPost s w (lexA s.data.toList) e w' ∧ Below w.heap.size w w' := by
  have I33 : Aside0 ((Try.prog.info? 33).map (·.size) = some 6) := ⟨by kernel_rfl⟩
  by_cases hbig : 65536 < s.size
  · have hbi : (65536 : Int) < (s.size : Int) := by omega
    have HL : Aside0 (lexA s.data.toList = .err 2 0) := ⟨by rw [lexA_eq, if_pos (by rw [slen]; exact hbig)]⟩
    go_enter Try.func12, Try.ntmps12
    go_wp2
    go_ret3
    exact ⟨by rw [HL.out]; exact rfl, Below.refl _ _⟩
  · have hbi : (s.size : Int) ≤ 65536 := by omega
    have HL : Aside0 (lexA s.data.toList = lexP s.data.toList 0) := ⟨by rw [lexA_eq, if_neg (by rw [slen]; exact hbig)]⟩
    have HS := Aside0.mk hbig
    clear hbig
    go_enter Try.func12, Try.ntmps12
    go_wp2_with fail
    go_loopg [5, 6] (s.size + 1) (fun kq v i wr => ∃ (o : Nat) (acc : List T), i = .int .i64 (o : Int) ∧ Aside0 (s.size + 1 ≤ o + kq) ∧ Aside0 (o ≤ s.size) ∧ Aside0 (acc.length ≤ o) ∧ Aside0 (Kd.R k33 33 wr w.heap.size (fun _ => True) v (acc.map (tk33 s))) ∧ Aside0 (lexP s.data.toList 0 = R.app acc (lexP (rst s o) o)) ∧ Aside0 (Below w.heap.size w wr))
    case atStart => exact ⟨0, [], rfl, ⟨by omega⟩, ⟨by omega⟩, ⟨Nat.le_refl _⟩, ⟨Kd.R_nil _ _ _ _ _⟩, ⟨(app_nil _).symm⟩, ⟨Below.refl _ _⟩⟩
    case round =>
      obtain ⟨o, acc, rfl, HK, HO, HA, HRW, HLX, HBW⟩ := hrel
      cases gk with
      | zero => exact absurd HK.out (by have h_ := HO.out; omega)
      | succ k1 =>
        rcases skP_lex _ (rst s o) o (Nat.lt_succ_self _) with ⟨hx, hlx⟩ | ⟨n, hx, hn, hg, hlx⟩
        · have HX := Aside0.mk hx
          have HL2 : Aside0 (lexP s.data.toList 0 = .err 12 s.size) := ⟨by rw [HLX.out, hlx, rst_len]; show R.err 12 _ = _; congr 1; have h_ := HO.out; omega⟩
          clear hx hlx
          go_wp2_with ((go_at_call 25; (with_reducible refine (skip_is s o _ hs HO.out HX.out).mono ?_); rintro e w1 ⟨rfl, hd⟩; have HD1 := Aside0.mk hd; clear hd))
          go_ret3
          exact ⟨by rw [HL.out, HL2.out]; exact rfl, below_then HBW.out HBW.out.size HD1.out.below⟩
        · obtain ⟨i, hi⟩ : ∃ i, o + n = i := ⟨_, rfl⟩
          rw [rst_len] at hn
          rw [rst_drop] at hg hlx
          rw [hi] at hx hg hlx
          have HX := Aside0.mk hx
          have HG := Aside0.mk hg
          have HLI : Aside0 (lexP s.data.toList 0 = R.app acc (lexP (rst s i) i)) := ⟨by rw [HLX.out, hlx]⟩
          have HI : Aside0 (o ≤ i ∧ i ≤ s.size) := ⟨by have h_ := HO.out; omega⟩
          have q0 : ¬ ((i : Int) < 0) := by omega
          have q00 : (0 : Int) ≤ (i : Int) := by omega
          clear hx hn hg hlx hi
          by_cases hend : i = s.size
          · have q1 : ((i : Int) == (s.size : Int)) = true := by rw [hend]; exact beq_self_eq_true _
            have HL2 : Aside0 (lexP s.data.toList 0 = .ok acc) := ⟨by rw [HLI.out, hend, show rst s s.size = [] from by unfold rst; rw [List.drop_eq_nil_iff, slen]; exact Nat.le_refl _, lexP_nil]; show R.ok (acc ++ []) = _; rw [List.append_nil]⟩
            clear hend
            go_wp2_with ((go_at_call 25; (with_reducible refine (skip_is s o _ hs HO.out HX.out).mono ?_); rintro e w1 ⟨rfl, hd⟩; have HD1 := Aside0.mk hd; clear hd))
            go_ret3
            exact ⟨by rw [HL.out, HL2.out]; exact ⟨_, rfl, Kd.R_below HRW.out HD1.out.below⟩, below_then HBW.out HBW.out.size HD1.out.below⟩
          · have q1 : ((i : Int) == (s.size : Int)) = false := by rw [beq_eq_false_iff_ne]; omega
            have HOL : Aside0 (i < s.size) := ⟨by have h_ := HI.out; omega⟩
            have HN0 : Aside0 (rst s i ≠ []) := ⟨by have h_ := HOL.out; unfold rst; rw [ne_eq, List.drop_eq_nil_iff, slen]; omega⟩
            clear hend
            obtain ⟨E, hE, hE1, hE2, hE3, hE4⟩ := id_scan s i HI.out.2
            have HE := Aside0.mk hE
            have HE12 := Aside0.mk (And.intro hE1 hE2)
            have HE3 := Aside0.mk hE3
            have HE4 := Aside0.mk hE4
            clear hE hE1 hE2 hE3 hE4
            go_upto_block 2 with ((go_at_call 25; (with_reducible refine (skip_is s o _ hs HO.out HX.out).mono ?_); rintro e w1 ⟨rfl, hd⟩; have HD1 := Aside0.mk hd; clear hd))
            obtain ⟨wo, hwo⟩ : ∃ wo : World, wo = w1 := ⟨_, rfl⟩
            subst hwo
            go_cut [7] from 30 to 47 (fun k wc => k = .int .i64 (E : Int) ∧ Aside0 (Drawn0 wo wc))
            case first =>
              go_wp2_with fail
              go_loopg [7] (s.size + 1) (fun kq v wr2 => ∃ (p : Nat), v = .int .i64 (p : Int) ∧ Aside0 (s.size + 1 ≤ p + kq) ∧ Aside0 (i ≤ p ∧ p ≤ E) ∧ Aside0 (Drawn0 wo wr2))
              case atStart => exact ⟨i, rfl, ⟨by omega⟩, ⟨Nat.le_refl _, HE12.out.1⟩, ⟨Drawn0.refl _⟩⟩
              case round =>
                obtain ⟨p, rfl, HPK, HP, HDP⟩ := hrel
                cases gk with
                | zero => exact absurd HPK.out (by have h_ := HE12.out; have h1_ := HP.out; omega)
                | succ k2 =>
                  have hple : (p : Int) ≤ (s.size : Int) := by have h_ := HP.out; have h1_ := HE12.out; omega
                  by_cases hp : p < E
                  · obtain ⟨c, hbt, hid⟩ := HE3.out p HP.out.1 hp
                    have hps : p < s.size := by have h1_ := HE12.out; omega
                    have q11 : ((p : Int) < (s.size : Int)) = True := by apply eq_true; omega
                    have q12 : (p < s.size) = True := eq_true hps
                    have q13 : ∀ h : p < s.size, ((s[p]'h).toNat : Int) = (c.toNat : Int) := fun h => (bt_at s (p : Int) h).trans hbt
                    have q14 : decide ((p : Int) < (s.size : Int)) = true := decide_eq_true (by omega)
                    have HEW : Aside0 (wrap64 ((p : Int) + 1) = ((p + 1 : Nat) : Int)) := ⟨by rw [w64 _ (by omega) (by omega)]; rfl⟩
                    have HPE := Aside0.mk hp
                    clear hbt hp hps
                    cases hlr : ltr c with
                    | true =>
                      have HLR := Aside0.mk hlr
                      clear hlr hid
                      go_wp2_with (go_at_call 26; (with_reducible refine (refletter_is c HLR.out _).mono ?_); rintro e w3 ⟨rfl, hd⟩; have HD3 := Aside0.mk hd; clear hd)
                      go_roundg k2
                      case measure => omega
                      case rel => exact ⟨p + 1, by first | (rw [HEW.out]; done) | rfl | go_num, ⟨by have h_ := HPK.out; omega⟩, ⟨by have h_ := HP.out; have h1_ := HPE.out; omega⟩, ⟨drawn_trans HDP.out HD3.out⟩⟩
                    | false =>
                      have hdg : dig c = true := by unfold idc at hid; rw [hlr] at hid; simpa using hid
                      have HLR := Aside0.mk hlr
                      have HDG := Aside0.mk hdg
                      clear hlr hid hdg
                      go_wp2_with (first
                        | (go_at_call 26; (with_reducible refine (refletter_is c HLR.out _).mono ?_); rintro e w3 ⟨rfl, hd⟩; have HD3 := Aside0.mk hd; clear hd)
                        | (go_at_call 27; (with_reducible refine (refdigit_is c HDG.out _).mono ?_); rintro e w4 ⟨rfl, hd⟩; have HD4 := Aside0.mk hd; clear hd))
                      go_roundg k2
                      case measure => omega
                      case rel => exact ⟨p + 1, by first | (rw [HEW.out]; done) | rfl | go_num, ⟨by have h_ := HPK.out; omega⟩, ⟨by have h_ := HP.out; have h1_ := HPE.out; omega⟩, ⟨drawn_trans (drawn_trans HDP.out HD3.out) HD4.out⟩⟩
                  · obtain rfl : p = E := by have h_ := HP.out; omega
                    clear hp
                    rcases HE4.out with h_ | ⟨hps, c, hbt, hid⟩
                    · have q14 : decide ((p : Int) < (s.size : Int)) = false := decide_eq_false (by omega)
                      have q15 : ((p : Int) < (s.size : Int)) = False := by apply eq_false; omega
                      clear h_
                      go_wp2
                      go_meet
                      exact ⟨rfl, HDP⟩
                    · have q11 : ((p : Int) < (s.size : Int)) = True := by apply eq_true; omega
                      have q12 : (p < s.size) = True := eq_true hps
                      have q13 : ∀ h : p < s.size, ((s[p]'h).toNat : Int) = (c.toNat : Int) := fun h => (bt_at s (p : Int) h).trans hbt
                      have q14 : decide ((p : Int) < (s.size : Int)) = true := decide_eq_true (by omega)
                      have hid2 : ltr c = false ∧ dig c = false := by unfold idc at hid; simpa using hid
                      have HLR := Aside0.mk hid2.1
                      have HDG := Aside0.mk hid2.2
                      clear hbt hps hid hid2
                      go_wp2_with (first
                        | (go_at_call 26; (with_reducible refine (refletter_is c HLR.out _).mono ?_); rintro e w3 ⟨rfl, hd⟩; have HD3 := Aside0.mk hd; clear hd)
                        | (go_at_call 27; (with_reducible refine (refdigit_is c HDG.out _).mono ?_); rintro e w4 ⟨rfl, hd⟩; have HD4 := Aside0.mk hd; clear hd))
                      go_meet
                      exact ⟨rfl, ⟨drawn_trans (drawn_trans HDP.out HD3.out) HD4.out⟩⟩
            case rest =>
              obtain ⟨rfl, HDC⟩ := hcut
              have q20 : (i : Int) ≤ (E : Int) := by have h_ := HE12.out; omega
              have q21 : (E : Int) ≤ (s.size : Int) := by have h_ := HE12.out; omega
              obtain ⟨wx, hwx⟩ : ∃ wx : World, wx = wc := ⟨_, rfl⟩
              subst hwx
              go_upto_region 13 with (fail)
              go_cut [8] from 48 to 55 (fun p8 wd => ∃ g8, p8 = .pointer (some ⟨g8, 0, none⟩) ∧ Aside0 (wd.heap[g8]? = some (.cells #[.int .i64 0, .string (s.extract i E), .int .i32 0, .int .i64 (i : Int), .int .i64 (lnA s i), .int .i64 ((i : Int) - stA s i + 1)] 33 (0, 0))) ∧ Aside0 (wx.heap.size ≤ g8) ∧ Aside0 (Below wx.heap.size wx wd))
              case first =>
                go_region_with ((go_at_call 14; (with_reducible refine (refat_calls s (i : Int) i _ hs (by have h_ := HOL.out; omega)).mono ?_); unfold plV; rintro e w3 ⟨rfl, hb⟩; have HB3 := Aside0.mk hb; obtain ⟨hcc_, hff_⟩ := bcell hb; clear hb))
                all_goals clear hcc_ hff_
                all_goals (go_step; go_step; go_meet)
                · exact ⟨_, rfl, ⟨blk_new w3 _⟩, ⟨HB3.out.size⟩, ⟨((Below.refl wx.heap.size wx).drew.trans HB3.out).alloc HB3.out.size _⟩⟩
                · have h1_ := blk_below (blk_drew (blk_new wx _)) HB3.out
                  have h2_ := below_then (below_alloc (Below.refl wx.heap.size wx) _).drew (by simp) HB3.out
                  exact ⟨_, rfl, ⟨blk6 h1_ rfl _ _ _ _ _ _⟩, ⟨Nat.le_refl _⟩, ⟨below6 h2_ (Nat.le_refl _) _ _ _ _ _ _⟩⟩
              case rest =>
                obtain ⟨g8, rfl, HB8, HG8, HBD⟩ := hcut
                have HBx := Aside0.mk (below_then (below_then HBW.out HBW.out.size HD1.out.below) (Nat.le_trans HBW.out.size HD1.out.below.size) HDC.out.below)
                have HRx := Aside0.mk (Kd.R_below (Kd.R_below HRW.out HD1.out.below) HDC.out.below)
                have HRg := Aside0.mk (Kd.R_below (Kd.R_elderB HRx.out g8 HG8.out) HBD.out)
                have HBc := Aside0.mk (below_then HBx.out HBx.out.size HBD.out)
                have HGW : Aside0 (w.heap.size ≤ g8) := ⟨Nat.le_trans HBx.out.size HG8.out⟩
                have HLTc : Aside0 (g8 < wc.heap.size) := ⟨blk_lt HB8.out⟩
                have hX1 : (s.extract i E).data.toList = (rst s i).take (idL (rst s i)) := by
                  rw [Lib.extract_data, ← HE.out]
                  show _ = ((s.data.toList.drop i).take _)
                  simp [List.drop_take]
                obtain ⟨X, hX⟩ : ∃ X, s.extract i E = X := ⟨_, rfl⟩
                rw [hX] at hX1 HB8
                obtain ⟨n, hn⟩ : ∃ n, idL (rst s i) = n := ⟨_, rfl⟩
                rw [hn] at hX1
                have HE2 : Aside0 (i + n = E) := ⟨by rw [← hn]; exact HE.out⟩
                have hXs : X.size = n := by
                  have h_ := slen X
                  rw [hX1, List.length_take, rst_len] at h_
                  have h1_ := HE12.out
                  have h2_ := HE2.out
                  omega
                have HX1 := Aside0.mk hX1
                have HXS := Aside0.mk hXs
                have HN := Aside0.mk hn
                have HXE := Aside0.mk (ba_of X _ hX1)
                obtain ⟨c, r, hcr, hbt0⟩ := rst_cons s i HOL.out
                have HCR := Aside0.mk hcr
                have HHD : Aside0 ((rst s i).head? = some c) := ⟨by rw [hcr]; rfl⟩
                have hbt : bt s (i : Int) = (c.toNat : Int) := hbt0.symm
                clear hbt0
                have q30 : ((i : Int) < (s.size : Int)) = True := by apply eq_true; have h_ := HOL.out; omega
                have q31 : (i < s.size) = True := eq_true HOL.out
                have q32 : ∀ h : i < s.size, ((s[i]'h).toNat : Int) = (c.toNat : Int) := fun h => (bt_at s (i : Int) h).trans hbt
                clear hX hX1 hXs hn hcr hbt
                by_cases h0 : n = 0
                · subst h0
                  obtain rfl : i = E := by have h_ := HE2.out; omega
                  have hX0 : X = ⟨#[]⟩ := by rw [HXE.out]; rfl
                  subst hX0
                  have q33 : ((i : Int) == (i : Int)) = true := beq_self_eq_true _
                  go_wp2_with (go_at_call 28; (with_reducible refine (signs_calls _).mono ?_); rintro e w3 ⟨A, cw, rfl, hcw, ho, hb⟩; have HO3 := Aside0.mk (Kd.R_newB ho HB8.out); have HB3 := Aside0.mk hb; clear ho hb hcw)
                  go_loopg [61] 30 (fun kq v wr2 => ∃ j : Nat, v = .int .i64 (j : Int) ∧ Aside0 (30 ≤ j + kq) ∧ Aside0 (j ≤ 29) ∧ Aside0 (Kd.R Kd.string 9 wr2 wc.heap.size (fun k => True ∧ k ≠ g8) (.slice A 29 cw) wsL) ∧ Aside0 (wr2.heap[g8]? = some (.cells #[.int .i64 0, .string (sgB (rst s i) j), .int .i32 0, .int .i64 (i : Int), .int .i64 (lnA s i), .int .i64 ((i : Int) - stA s i + 1)] 33 (0, 0))) ∧ Aside0 (Below g8 wc wr2) ∧ Aside0 (KeepBut wc wr2 g8 none))
                  case atStart => exact ⟨0, rfl, ⟨by omega⟩, ⟨by omega⟩, HO3, ⟨blk_below HB8.out HB3.out⟩, ⟨HB3.out.mono (Nat.le_of_lt HLTc.out)⟩, ⟨KeepBut.of_below HB3.out g8 none⟩⟩
                  case round =>
                    obtain ⟨j, rfl, HJK, HJ, HRJ, HBJ, HWJ, HKJ⟩ := hrel
                    clear HO3 HB3
                    cases gk with
                    | zero => exact absurd HJK.out (by have h_ := HJ.out; omega)
                    | succ k2 =>
                      by_cases hj : j < 29
                      · obtain ⟨y, hy, hyt⟩ := ws_at j hj
                        obtain ⟨ad, e_, hx⟩ := Kd.at_string (Kd.R_reads' HRJ.out).2.2 (j : Int) (by omega) (by have h_ : wsL.length = 29 := rfl; omega)
                        subst e_
                        rw [hy, Int.toNat_natCast] at hx
                        have hsn := sgF_snoc (rst s i) y.data.toList (signsL.take j) (fun q hq => signs_ne q (List.mem_of_mem_take hq))
                        rw [← hyt] at hsn
                        have q40 : (j : Int) < 29 := by omega
                        have HJ9 := Aside0.mk hj
                        clear hy hyt hj
                        by_cases hsg : sgF (rst s i) (signsL.take j) = []
                        · rw [if_pos hsg] at hsn
                          have b8_ := HBJ.out
                          rw [show sgB (rst s i) j = ⟨#[]⟩ from by unfold sgB; rw [hsg]] at b8_
                          have c80 : wr.cell? ⟨g8, 0, none⟩ = some (.int .i64 0) := (blk_cell b8_ 0).trans rfl; have f80 := blk_frozen b8_ 0; have c81 : wr.cell? ⟨g8, 1, none⟩ = some (.string ⟨#[]⟩) := (blk_cell b8_ 1).trans rfl; have f81 := blk_frozen b8_ 1; have c82 : wr.cell? ⟨g8, 2, none⟩ = some (.int .i32 0) := (blk_cell b8_ 2).trans rfl; have f82 := blk_frozen b8_ 2; have c83 : wr.cell? ⟨g8, 3, none⟩ = some (.int .i64 (i : Int)) := (blk_cell b8_ 3).trans rfl; have f83 := blk_frozen b8_ 3; have c84 : wr.cell? ⟨g8, 4, none⟩ = some (.int .i64 (lnA s i)) := (blk_cell b8_ 4).trans rfl; have f84 := blk_frozen b8_ 4; have c85 : wr.cell? ⟨g8, 5, none⟩ = some (.int .i64 ((i : Int) - stA s i + 1)) := (blk_cell b8_ 5).trans rfl; have f85 := blk_frozen b8_ 5
                          have HB9 := Aside0.mk b8_
                          clear b8_ hsg
                          cases hp : Lib.hasPrefix (rst s i) y.data.toList with
                          | true =>
                            rw [hp, if_pos rfl] at hsn
                            have HYB : Aside0 (sgB (rst s i) (j + 1) = y) := ⟨by unfold sgB; rw [hsn]⟩
                            have HP : Aside0 (Lib.hasPrefix (s.extract i s.size).data.toList y.data.toList = true) := ⟨by rw [rst_ext]; exact hp⟩
                            clear hsn hp
                            go_wp2_with (go_at_call 29; (with_reducible refine (begins_is _ y HP.out _).mono ?_); rintro e w4 ⟨rfl, hd⟩; have HD4 := Aside0.mk hd; clear hd; clear c80 f80 c81 f81 c82 f82 c83 f83 c84 f84 c85 f85; have b8_ := blk_below HB9.out HD4.out.below; have c80 : w4.cell? ⟨g8, 0, none⟩ = some (.int .i64 0) := (blk_cell b8_ 0).trans rfl; have f80 := blk_frozen b8_ 0; have c81 : w4.cell? ⟨g8, 1, none⟩ = some (.string ⟨#[]⟩) := (blk_cell b8_ 1).trans rfl; have f81 := blk_frozen b8_ 1; have c82 : w4.cell? ⟨g8, 2, none⟩ = some (.int .i32 0) := (blk_cell b8_ 2).trans rfl; have f82 := blk_frozen b8_ 2; have c83 : w4.cell? ⟨g8, 3, none⟩ = some (.int .i64 (i : Int)) := (blk_cell b8_ 3).trans rfl; have f83 := blk_frozen b8_ 3; have c84 : w4.cell? ⟨g8, 4, none⟩ = some (.int .i64 (lnA s i)) := (blk_cell b8_ 4).trans rfl; have f84 := blk_frozen b8_ 4; have c85 : w4.cell? ⟨g8, 5, none⟩ = some (.int .i64 ((i : Int) - stA s i + 1)) := (blk_cell b8_ 5).trans rfl; have f85 := blk_frozen b8_ 5; have HB94 := Aside0.mk b8_; clear b8_)
                            go_roundg k2
                            case measure => omega
                            case rel => exact ⟨j + 1, by first | rfl | go_num, ⟨by have h_ := HJK.out; omega⟩, ⟨by have h_ := HJ9.out; omega⟩, ⟨Kd.R_far (p := ⟨g8, 1, none⟩) (Kd.R_below HRJ.out HD4.out.below) (fun k hk => hk.2) _⟩, ⟨by rw [HYB.out]; exact blk_put HB94.out 1 _ rfl⟩, ⟨(HWJ.out.trans (HD4.out.below.mono (Nat.le_of_lt (blk_lt HBJ.out)))).setCell (Nat.le_refl _) _⟩, ⟨KeepBut.set_ (HKJ.out.trans (KeepBut.of_below HD4.out.below g8 none) (.inl rfl)) 1 _⟩⟩
                          | false =>
                            rw [hp, if_neg (by decide)] at hsn
                            have HYB : Aside0 (sgB (rst s i) (j + 1) = ⟨#[]⟩) := ⟨by unfold sgB; rw [hsn]⟩
                            have HP : Aside0 (Lib.hasPrefix (s.extract i s.size).data.toList y.data.toList = false) := ⟨by rw [rst_ext]; exact hp⟩
                            clear hsn hp
                            go_wp2_with (go_at_call 29; (with_reducible refine (begins_is _ y HP.out _).mono ?_); rintro e w4 ⟨rfl, hd⟩; have HD4 := Aside0.mk hd; clear hd)
                            go_roundg k2
                            case measure => omega
                            case rel => exact ⟨j + 1, by first | rfl | go_num, ⟨by have h_ := HJK.out; omega⟩, ⟨by have h_ := HJ9.out; omega⟩, ⟨Kd.R_below HRJ.out HD4.out.below⟩, ⟨by rw [HYB.out]; exact blk_below HB9.out HD4.out.below⟩, ⟨HWJ.out.trans (HD4.out.below.mono (Nat.le_of_lt (blk_lt HBJ.out)))⟩, ⟨HKJ.out.trans (KeepBut.of_below HD4.out.below g8 none) (.inl rfl)⟩⟩
                        · rw [if_neg hsg] at hsn
                          have HYB : Aside0 (sgB (rst s i) (j + 1) = sgB (rst s i) j) := ⟨by unfold sgB; rw [hsn]⟩
                          obtain ⟨Y, hY⟩ : ∃ Y, sgB (rst s i) j = Y := ⟨_, rfl⟩
                          have hYe : Y.toList.isEmpty = false := by
                            rw [← hY, bal_list]
                            unfold sgB
                            rw [ba_list]
                            cases hz : sgF (rst s i) (signsL.take j) with
                            | nil => exact absurd hz hsg
                            | cons => rfl
                          have b8_ := HBJ.out
                          rw [hY] at b8_
                          have c80 : wr.cell? ⟨g8, 0, none⟩ = some (.int .i64 0) := (blk_cell b8_ 0).trans rfl; have f80 := blk_frozen b8_ 0; have c81 : wr.cell? ⟨g8, 1, none⟩ = some (.string Y) := (blk_cell b8_ 1).trans rfl; have f81 := blk_frozen b8_ 1; have c82 : wr.cell? ⟨g8, 2, none⟩ = some (.int .i32 0) := (blk_cell b8_ 2).trans rfl; have f82 := blk_frozen b8_ 2; have c83 : wr.cell? ⟨g8, 3, none⟩ = some (.int .i64 (i : Int)) := (blk_cell b8_ 3).trans rfl; have f83 := blk_frozen b8_ 3; have c84 : wr.cell? ⟨g8, 4, none⟩ = some (.int .i64 (lnA s i)) := (blk_cell b8_ 4).trans rfl; have f84 := blk_frozen b8_ 4; have c85 : wr.cell? ⟨g8, 5, none⟩ = some (.int .i64 ((i : Int) - stA s i + 1)) := (blk_cell b8_ 5).trans rfl; have f85 := blk_frozen b8_ 5
                          have hY2 := Aside0.mk hY
                          clear b8_ hsg hsn hY
                          go_wp2
                          go_roundg k2
                          case measure => omega
                          case rel => exact ⟨j + 1, by first | rfl | go_num, ⟨by have h_ := HJK.out; omega⟩, ⟨by have h_ := HJ9.out; omega⟩, HRJ, ⟨by rw [HYB.out]; exact HBJ.out⟩, HWJ, HKJ⟩
                      · obtain rfl : j = 29 := by have h_ := HJ.out; omega
                        clear hj
                        have hsi := sg_is c r
                        rw [← HCR.out] at hsi
                        have hT := tok_sign HN.out
                        obtain ⟨m, hm⟩ : ∃ m, signL (rst s i) = m := ⟨_, rfl⟩
                        have hmb := (sign_bd (rst s i)).1
                        rw [hm] at hsi hT hmb
                        rw [rst_len] at hmb
                        have hYs : sgB (rst s i) 29 = ⟨((rst s i).take m).toArray⟩ := by
                          unfold sgB
                          rw [show signsL.take 29 = signsL from rfl, hsi]
                        have hY8 := HBJ.out
                        rw [hYs] at hY8
                        have HRG9 := Aside0.mk (Kd.R_keep HRg.out HKJ.out (fun _ hk => hk.2))
                        by_cases hm0 : m = 0
                        · rw [if_pos hm0] at hT
                          have HT := Aside0.mk hT
                          rw [hm0] at hY8
                          rw [show (⟨(List.take 0 (rst s i)).toArray⟩ : ByteArray) = ⟨#[]⟩ from rfl] at hY8
                          have b8_ := hY8
                          have c80 : wr.cell? ⟨g8, 0, none⟩ = some (.int .i64 0) := (blk_cell b8_ 0).trans rfl; have f80 := blk_frozen b8_ 0; have c81 : wr.cell? ⟨g8, 1, none⟩ = some (.string ⟨#[]⟩) := (blk_cell b8_ 1).trans rfl; have f81 := blk_frozen b8_ 1; have c82 : wr.cell? ⟨g8, 2, none⟩ = some (.int .i32 0) := (blk_cell b8_ 2).trans rfl; have f82 := blk_frozen b8_ 2; have c83 : wr.cell? ⟨g8, 3, none⟩ = some (.int .i64 (i : Int)) := (blk_cell b8_ 3).trans rfl; have f83 := blk_frozen b8_ 3; have c84 : wr.cell? ⟨g8, 4, none⟩ = some (.int .i64 (lnA s i)) := (blk_cell b8_ 4).trans rfl; have f84 := blk_frozen b8_ 4; have c85 : wr.cell? ⟨g8, 5, none⟩ = some (.int .i64 ((i : Int) - stA s i + 1)) := (blk_cell b8_ 5).trans rfl; have f85 := blk_frozen b8_ 5
                          clear b8_ hm0 hm hsi hT hmb hYs hY8
                          go_wp2
                          go_ret3
                          exact ⟨by rw [HL.out, HLI.out, lexP_terr _ HG.out HN0.out HT.out]; exact rfl, HBc.out.trans (HWJ.out.mono HGW.out)⟩
                        · rw [if_neg hm0] at hT
                          have HT := Aside0.mk hT
                          have hXl : ((rst s i).take m).length = m := by rw [List.length_take, rst_len]; omega
                          obtain ⟨Y, hY⟩ : ∃ Y : ByteArray, ⟨((rst s i).take m).toArray⟩ = Y := ⟨_, rfl⟩
                          have hYe : Y.toList.isEmpty = false := by
                            rw [← hY, bal_list, ba_list]
                            cases hz : (rst s i).take m with
                            | nil => rw [hz] at hXl; exact absurd hXl.symm hm0
                            | cons => rfl
                          have hYz : Y.size = m := by rw [← hY, ba_size, hXl]
                          have HEWM2 : Aside0 ((i : Int) + (Y.size : Int) = ((i + m : Nat) : Int)) := ⟨by rw [hYz]; rfl⟩
                          have HEWM : Aside0 (wrap64 ((i : Int) + (Y.size : Int)) = ((i + m : Nat) : Int)) := ⟨by rw [hYz, w64 _ (by omega) (by have h_ := HI.out; omega)]; rfl⟩
                          rw [hY] at hY8
                          have HXE := Aside0.mk hY.symm
                          have b8_ := hY8
                          have c80 : wr.cell? ⟨g8, 0, none⟩ = some (.int .i64 0) := (blk_cell b8_ 0).trans rfl; have f80 := blk_frozen b8_ 0; have c81 : wr.cell? ⟨g8, 1, none⟩ = some (.string Y) := (blk_cell b8_ 1).trans rfl; have f81 := blk_frozen b8_ 1; have c82 : wr.cell? ⟨g8, 2, none⟩ = some (.int .i32 0) := (blk_cell b8_ 2).trans rfl; have f82 := blk_frozen b8_ 2; have c83 : wr.cell? ⟨g8, 3, none⟩ = some (.int .i64 (i : Int)) := (blk_cell b8_ 3).trans rfl; have f83 := blk_frozen b8_ 3; have c84 : wr.cell? ⟨g8, 4, none⟩ = some (.int .i64 (lnA s i)) := (blk_cell b8_ 4).trans rfl; have f84 := blk_frozen b8_ 4; have c85 : wr.cell? ⟨g8, 5, none⟩ = some (.int .i64 ((i : Int) - stA s i + 1)) := (blk_cell b8_ 5).trans rfl; have f85 := blk_frozen b8_ 5
                          have B8N := Aside0.mk b8_
                          clear b8_ hm0 hm hsi hT hmb hYs hXl hYz hY hY8
                          have HRN := HRG9
                          have HBN : Aside0 (Below w.heap.size w wr) := ⟨HBc.out.trans (HWJ.out.mono HGW.out)⟩
                          go_upto_region 42 with (fail)
                          have b9_ : (wr.setCell ⟨g8, 0, none⟩ (.int .i64 4)).heap[g8]? = some (.cells #[.int .i64 4, .string Y, .int .i32 0, .int .i64 (i : Int), .int .i64 (lnA s i), .int .i64 ((i : Int) - stA s i + 1)] 33 (0, 0)) := blk_put (B8N.out) 0 _ rfl
                          have hr9_ := Kd.R_far (p := ⟨g8, 0, none⟩) (HRN.out) (fun k hk => hk.2) (.int .i64 4)
                          have hb9_ := Below.setCell (p := ⟨g8, 0, none⟩) (HBN.out) HGW.out (.int .i64 4)
                          generalize (wr.setCell ⟨g8, 0, none⟩ (.int .i64 4)) = w5 at b9_ hr9_ hb9_ ⊢
                          have BX5 := Aside0.mk b9_
                          have HLT5 : Aside0 (g8 < w5.heap.size) := ⟨blk_lt b9_⟩
                          have HR5 := Aside0.mk hr9_
                          have HB5 := Aside0.mk hb9_
                          have c90 : w5.cell? ⟨g8, 0, none⟩ = some (.int .i64 4) := (blk_cell b9_ 0).trans rfl
                          have f90 := blk_frozen b9_ 0
                          have c91 : w5.cell? ⟨g8, 1, none⟩ = some (.string Y) := (blk_cell b9_ 1).trans rfl
                          have f91 := blk_frozen b9_ 1
                          have c92 : w5.cell? ⟨g8, 2, none⟩ = some (.int .i32 0) := (blk_cell b9_ 2).trans rfl
                          have f92 := blk_frozen b9_ 2
                          have c93 : w5.cell? ⟨g8, 3, none⟩ = some (.int .i64 (i : Int)) := (blk_cell b9_ 3).trans rfl
                          have f93 := blk_frozen b9_ 3
                          have c94 : w5.cell? ⟨g8, 4, none⟩ = some (.int .i64 (lnA s i)) := (blk_cell b9_ 4).trans rfl
                          have f94 := blk_frozen b9_ 4
                          have c95 : w5.cell? ⟨g8, 5, none⟩ = some (.int .i64 ((i : Int) - stA s i + 1)) := (blk_cell b9_ 5).trans rfl
                          have f95 := blk_frozen b9_ 5
                          clear b9_ hr9_ hb9_
                          go_wp2_with ((with_reducible refine gate_builtin (b := .append) (xs := #[.tmp 139, .tmp 141]) rfl ?_); at_builtin; refine Kd.R_append k33 (w0 := w) w.heap.size rfl (.tmp 139) (.tmp 141) 23 33 (.agg zcells) 56 rfl Try.underlying23 info33 rfl (by decide) (by omega) u5 (acc.map (tk33 s)) (tk33 s ⟨4, (rst s i).take m, 0, i⟩) [.int .i64 4, .string Y, .int .i32 0, .int .i64 (i : Int), .int .i64 (lnA s i), .int .i64 ((i : Int) - stA s i + 1)] (fun k => True ∧ k ≠ g8) (fun _ => False) rfl rfl ?aP (fun _ hk => hk.elim) ?aF ?aO ?aB ?aS ?aL ?_; (case aP => first | exact k33_mkM _ _ _ _ | (rw [HXE.out]; exact k33_mkM _ _ _ _)); (case aF => exact (fun k hk => ⟨trivial, Nat.ne_of_gt (Nat.lt_of_lt_of_le HLT5.out hk)⟩)); (case aO => exact HR5.out); (case aB => exact HB5.out); (case aS => exact HB5.out.size); (case aL => rw [List.length_map]; have h_ := HA.out; have h1_ := HO.out; omega); intro v9 w9 ho hb hg hat; have HO9 := Aside0.mk ho; have HB9 := Aside0.mk hb; have b9_ := blk_grown BX5.out hg (fun h => (HR5.out.1 g8 h.symm).2 rfl); clear ho hb hg hat c90 f90 c91 f91 c92 f92 c93 f93 c94 f94 c95 f95; have c90 : w9.cell? ⟨g8, 0, none⟩ = some (.int .i64 4) := (blk_cell b9_ 0).trans rfl; have f90 := blk_frozen b9_ 0; have c91 : w9.cell? ⟨g8, 1, none⟩ = some (.string Y) := (blk_cell b9_ 1).trans rfl; have f91 := blk_frozen b9_ 1; have c92 : w9.cell? ⟨g8, 2, none⟩ = some (.int .i32 0) := (blk_cell b9_ 2).trans rfl; have f92 := blk_frozen b9_ 2; have c93 : w9.cell? ⟨g8, 3, none⟩ = some (.int .i64 (i : Int)) := (blk_cell b9_ 3).trans rfl; have f93 := blk_frozen b9_ 3; have c94 : w9.cell? ⟨g8, 4, none⟩ = some (.int .i64 (lnA s i)) := (blk_cell b9_ 4).trans rfl; have f94 := blk_frozen b9_ 4; have c95 : w9.cell? ⟨g8, 5, none⟩ = some (.int .i64 ((i : Int) - stA s i + 1)) := (blk_cell b9_ 5).trans rfl; have f95 := blk_frozen b9_ 5; clear b9_)
                          go_roundg k1
                          case measure => omega
                          case rel => exact ⟨i + m, acc ++ [⟨4, (rst s i).take m, 0, i⟩], by first | (rw [HEWM.out]; done) | (rw [HEWM2.out]; done) | rfl | go_num, ⟨by have h_ := HK.out; have h1_ := HI.out; have h2_ := tok_bd HT.out; omega⟩, ⟨by have h_ := (tok_bd HT.out).2; rw [rst_len] at h_; have h1_ := HOL.out; omega⟩, ⟨by rw [List.length_append]; have h_ := HA.out; have h1_ := HI.out; have h2_ := (tok_bd HT.out).1; simp only [List.length_cons, List.length_nil]; omega⟩, ⟨by rw [List.map_append]; exact Kd.R_mono HO9.out (fun _ _ => trivial)⟩, ⟨by rw [HLI.out, lexP_tok _ HG.out HN0.out HT.out, app_cons]; congr 2; rw [rst_drop]⟩, HB9⟩

                · have HNE := Aside0.mk h0
                  have q33 : ((E : Int) == (i : Int)) = false := by rw [beq_eq_false_iff_ne]; have h_ := HE2.out; omega
                  clear h0
                  have b8_ := HB8.out
                  have c80 : wc.cell? ⟨g8, 0, none⟩ = some (.int .i64 0) := (blk_cell b8_ 0).trans rfl; have f80 := blk_frozen b8_ 0; have c81 : wc.cell? ⟨g8, 1, none⟩ = some (.string X) := (blk_cell b8_ 1).trans rfl; have f81 := blk_frozen b8_ 1; have c82 : wc.cell? ⟨g8, 2, none⟩ = some (.int .i32 0) := (blk_cell b8_ 2).trans rfl; have f82 := blk_frozen b8_ 2; have c83 : wc.cell? ⟨g8, 3, none⟩ = some (.int .i64 (i : Int)) := (blk_cell b8_ 3).trans rfl; have f83 := blk_frozen b8_ 3; have c84 : wc.cell? ⟨g8, 4, none⟩ = some (.int .i64 (lnA s i)) := (blk_cell b8_ 4).trans rfl; have f84 := blk_frozen b8_ 4; have c85 : wc.cell? ⟨g8, 5, none⟩ = some (.int .i64 ((i : Int) - stA s i + 1)) := (blk_cell b8_ 5).trans rfl; have f85 := blk_frozen b8_ 5
                  clear b8_
                  have HEWM2 : Aside0 ((i : Int) + (X.size : Int) = ((i + n : Nat) : Int)) := ⟨by rw [HXS.out]; rfl⟩
                  have HEWM : Aside0 (wrap64 ((i : Int) + (X.size : Int)) = ((i + n : Nat) : Int)) := ⟨by rw [HXS.out, w64 _ (by omega) (by have h_ := HE12.out; have h1_ := HE2.out; omega)]; rfl⟩
                  by_cases hdg : dig c = true
                  · have HDG := Aside0.mk hdg
                    clear hdg
                    have kc := fun (w : World) (s : ByteArray) => Lib.run_convert_string_bytes (P := Try.prog) w 9 41 5 s Try.underlying9 Try.underlying41 Try.underlying5
                    go_wp2_with (go_at_call 27; (with_reducible refine (refdigit_is c HDG.out _).mono ?_); rintro e w3 ⟨rfl, hd⟩; have HD3 := Aside0.mk hd; clear hd; clear c80 f80 c81 f81 c82 f82 c83 f83 c84 f84 c85 f85; have b8_ := blk_below HB8.out HD3.out.below; have c80 : w3.cell? ⟨g8, 0, none⟩ = some (.int .i64 0) := (blk_cell b8_ 0).trans rfl; have f80 := blk_frozen b8_ 0; have c81 : w3.cell? ⟨g8, 1, none⟩ = some (.string X) := (blk_cell b8_ 1).trans rfl; have f81 := blk_frozen b8_ 1; have c82 : w3.cell? ⟨g8, 2, none⟩ = some (.int .i32 0) := (blk_cell b8_ 2).trans rfl; have f82 := blk_frozen b8_ 2; have c83 : w3.cell? ⟨g8, 3, none⟩ = some (.int .i64 (i : Int)) := (blk_cell b8_ 3).trans rfl; have f83 := blk_frozen b8_ 3; have c84 : w3.cell? ⟨g8, 4, none⟩ = some (.int .i64 (lnA s i)) := (blk_cell b8_ 4).trans rfl; have f84 := blk_frozen b8_ 4; have c85 : w3.cell? ⟨g8, 5, none⟩ = some (.int .i64 ((i : Int) - stA s i + 1)) := (blk_cell b8_ 5).trans rfl; have f85 := blk_frozen b8_ 5; clear b8_)
                    have hbw := bytesWorld_below w3 5 X
                    have hbc := fun (j : Nat) (hj : j < X.size) => Lib.bytesWorld_cell w3 5 X j hj
                    have hbz := Lib.bytesWorld_size w3 5 X
                    generalize Lib.bytesWorld w3 5 X = w5 at hbw hbc hbz ⊢
                    generalize grownCap w3 X.size 0 5 = cp
                    obtain ⟨gb, hgb⟩ : ∃ gb, w3.heap.size = gb := ⟨_, rfl⟩
                    rw [hgb] at hbc
                    try rw [hgb]
                    have HBW5 := Aside0.mk hbw
                    have HBC5 := Aside0.mk hbc
                    have HGB : Aside0 (gb < w5.heap.size) := ⟨by omega⟩
                    clear hbw hbc hbz hgb kc c80 f80 c81 f81 c82 f82 c83 f83 c84 f84 c85 f85
                    have hXl : X.data.toList.length = n := by rw [slen]; exact HXS.out
                    go_loopg [11, 91] (n + 1) (fun kq v a wr2 => ∃ j : Nat, a = .int .i64 (j : Int) ∧ Aside0 (n + 1 ≤ j + kq) ∧ Aside0 (j ≤ n) ∧ v = .int .i64 (numG 0 (X.data.toList.take j)) ∧ Aside0 ((X.data.toList.take j).all dig = true ∧ numG 0 (X.data.toList.take j) ≤ 21474836479) ∧ Aside0 (Drawn0 w5 wr2))
                    case atStart => exact ⟨0, rfl, ⟨by omega⟩, ⟨by omega⟩, rfl, ⟨rfl, by rw [List.take_zero]; decide⟩, ⟨Drawn0.refl _⟩⟩
                    case round =>
                      obtain ⟨j, rfl, HJK, HJ, rfl, HJD, HDJ⟩ := hrel
                      obtain ⟨N, hN⟩ : ∃ N, numG 0 (X.data.toList.take j) = N := ⟨_, rfl⟩
                      rw [hN]
                      have HNN := Aside0.mk hN
                      have hN0 : 0 ≤ N := by rw [← hN]; exact numG_nn _ _ (by decide) HJD.out.1
                      have hN1 : N ≤ 21474836479 := by rw [← hN]; exact HJD.out.2
                      have HX5 := Aside0.mk hXl
                      clear hN hXl
                      cases gk with
                      | zero => exact absurd HJK.out (by have h_ := HJ.out; omega)
                      | succ k2 =>
                        by_cases hj : j < n
                        · have hjl : j < X.data.toList.length := by have h_ := HX5.out; omega
                          obtain ⟨d, hd⟩ : ∃ d, X.data.toList[j] = d := ⟨_, rfl⟩
                          have hjx : j < X.size := by have h_ := HXS.out; omega
                          have hcl : wr.cell? ⟨gb, j, none⟩ = some (.int .u8 (d.toNat : Int)) := by
                            have h_ := HBC5.out j hjx
                            rw [List.getD_eq_getElem?_getD, List.getElem?_eq_getElem hjl, hd] at h_
                            exact pw_cell_below HDJ.out.below h_
                          have HJ9 := Aside0.mk hj
                          have q40 : (j : Int) < (X.size : Int) := by omega
                          have q41 : (j : Int) ≤ 65536 := by have h_ := HXS.out; have h1_ := HE12.out; have h2_ := HE2.out; omega
                          cases hdd : dig d with
                          | false =>
                            have HDD := Aside0.mk hdd
                            have HT := Aside0.mk (tok_nonum HN.out HNE.out HHD.out HDG.out (by rw [← HX1.out]; exact num_dig hjl (by rw [hd]; exact hdd)))
                            clear hd hj hjl hjx hdd
                            go_wp2_with (go_at_call 27; (with_reducible refine (refdigit_is d HDD.out _).mono ?_); rintro e w6 ⟨rfl, hd⟩; have HD6 := Aside0.mk hd; clear hd)
                            go_ret3
                            exact ⟨by rw [HL.out, HLI.out, lexP_terr _ HG.out HN0.out HT.out]; exact rfl, below_then HBc.out HBc.out.size (below_then (below_then (below_then HD3.out.below HD3.out.below.size HBW5.out) (Nat.le_trans HD3.out.below.size HBW5.out.size) HDJ.out.below) (Nat.le_trans (Nat.le_trans HD3.out.below.size HBW5.out.size) HDJ.out.below.size) HD6.out.below)⟩
                          | true =>
                            have HDD := Aside0.mk hdd
                            have hdb := dig_bd hdd
                            by_cases hv : 2147483647 < N
                            · have HT := Aside0.mk (tok_nonum HN.out HNE.out HHD.out HDG.out (by rw [← HX1.out]; exact num_bad (j := j) (by rw [HNN.out]; exact hv) HJD.out.1))
                              have q42 : decide (2147483647 < N) = true := decide_eq_true hv
                              clear hd hj hjl hjx hdd
                              go_wp2_with (go_at_call 27; (with_reducible refine (refdigit_is d HDD.out _).mono ?_); rintro e w6 ⟨rfl, hd⟩; have HD6 := Aside0.mk hd; clear hd)
                              go_ret3
                              exact ⟨by rw [HL.out, HLI.out, lexP_terr _ HG.out HN0.out HT.out]; exact rfl, below_then HBc.out HBc.out.size (below_then (below_then (below_then HD3.out.below HD3.out.below.size HBW5.out) (Nat.le_trans HD3.out.below.size HBW5.out.size) HDJ.out.below) (Nat.le_trans (Nat.le_trans HD3.out.below.size HBW5.out.size) HDJ.out.below.size) HD6.out.below)⟩
                            · have q42 : decide (2147483647 < N) = false := decide_eq_false hv
                              have hst : numG 0 (X.data.toList.take (j + 1)) = 10 * N + ((d.toNat : Int) - 48) := by rw [num_step hjl, HNN.out, hd]
                              have hst2 : (X.data.toList.take (j + 1)).all dig = true := all_step hjl HJD.out.1 (by rw [hd]; exact hdd)
                              have hval : wrap64 (wrap64 (wrap64 (N * 10) + (d.toNat : Int)) - 48) = numG 0 (X.data.toList.take (j + 1)) := by
                                rw [hst, w64 (N * 10) (by omega) (by omega), w64 (N * 10 + (d.toNat : Int)) (by omega) (by omega), w64 _ (by omega) (by omega)]
                                omega
                              have hval2 : N * 10 + (d.toNat : Int) - 48 = numG 0 (X.data.toList.take (j + 1)) := by rw [hst]; omega
                              have HS1 := Aside0.mk (And.intro hst2 (show numG 0 (X.data.toList.take (j + 1)) ≤ 21474836479 by rw [hst]; omega))
                              have HV1 := Aside0.mk hval
                              have HV2 := Aside0.mk hval2
                              clear hd hjl hjx hdd hv hst hst2 hval hval2
                              go_wp2_with (go_at_call 27; (with_reducible refine (refdigit_is d HDD.out _).mono ?_); rintro e w6 ⟨rfl, hd⟩; have HD6 := Aside0.mk hd; clear hd)
                              go_roundg k2
                              case measure => omega
                              case rel => exact ⟨j + 1, by first | rfl | go_num, ⟨by have h_ := HJK.out; omega⟩, ⟨by have h_ := HJ9.out; omega⟩, by first | rw [HV2.out] | rw [HV1.out], HS1, ⟨drawn_trans HDJ.out HD6.out⟩⟩
                        · obtain rfl : j = n := by have h_ := HJ.out; omega
                          clear hj
                          have hall : X.data.toList.take j = X.data.toList := by rw [List.take_of_length_le]; have h_ := HX5.out; omega
                          have hNV : numV ((rst s i).take j) = N := by rw [← HX1.out, ← HNN.out, hall]; rfl
                          have hdv : ((rst s i).take j).all dig = true := by rw [← HX1.out, ← hall]; exact HJD.out.1
                          have hXj : X.size = j := HXS.out
                          have HB6 := Aside0.mk (below_then (below_then HD3.out.below HD3.out.below.size HBW5.out) (Nat.le_trans HD3.out.below.size HBW5.out.size) HDJ.out.below)
                          have b8_ := blk_below HB8.out HB6.out
                          have B8N := Aside0.mk b8_
                          have c80 : wr.cell? ⟨g8, 0, none⟩ = some (.int .i64 0) := (blk_cell b8_ 0).trans rfl; have f80 := blk_frozen b8_ 0; have c81 : wr.cell? ⟨g8, 1, none⟩ = some (.string X) := (blk_cell b8_ 1).trans rfl; have f81 := blk_frozen b8_ 1; have c82 : wr.cell? ⟨g8, 2, none⟩ = some (.int .i32 0) := (blk_cell b8_ 2).trans rfl; have f82 := blk_frozen b8_ 2; have c83 : wr.cell? ⟨g8, 3, none⟩ = some (.int .i64 (i : Int)) := (blk_cell b8_ 3).trans rfl; have f83 := blk_frozen b8_ 3; have c84 : wr.cell? ⟨g8, 4, none⟩ = some (.int .i64 (lnA s i)) := (blk_cell b8_ 4).trans rfl; have f84 := blk_frozen b8_ 4; have c85 : wr.cell? ⟨g8, 5, none⟩ = some (.int .i64 ((i : Int) - stA s i + 1)) := (blk_cell b8_ 5).trans rfl; have f85 := blk_frozen b8_ 5
                          have HRN := Aside0.mk (Kd.R_below HRg.out HB6.out)
                          have HBN := Aside0.mk (below_then HBc.out HBc.out.size HB6.out)
                          have hj0 : 0 < X.size := by have h_ := HNE.out; omega
                          have hx0 : bt X 0 = (c.toNat : Int) := by
                            have hl_ : X.data.toList = c :: r.take (j - 1) := by
                              rw [HX1.out, HCR.out]
                              obtain ⟨q, rfl⟩ : ∃ q, j = q + 1 := ⟨j - 1, by omega⟩
                              rfl
                            exact bt_head hl_
                          have q50 : (0 < (X.size : Int)) = True := by apply eq_true; omega
                          have q51 : (0 < X.size) = True := eq_true hj0
                          have q52 : ∀ h : 0 < X.size, ((X[0]'h).toNat : Int) = (c.toNat : Int) := fun h => (bt_at X 0 h).trans hx0
                          have HXJ := Aside0.mk hXj
                          have q60 : ((j : Int) < (X.size : Int)) = False := by apply eq_false; omega
                          have q61 : decide ((j : Int) < (X.size : Int)) = false := decide_eq_false (by omega)
                          by_cases hv : 2147483647 < N
                          · have HT := Aside0.mk (tok_nonum HN.out HNE.out HHD.out HDG.out (numL_none_v (by rw [hNV]; exact hv)))
                            have q42 : decide (2147483647 < N) = true := decide_eq_true hv
                            clear b8_ hall hNV hdv hXj hj0 hx0 hv
                            go_wp2
                            go_ret3
                            exact ⟨by rw [HL.out, HLI.out, lexP_terr _ HG.out HN0.out HT.out]; exact rfl, HBN.out⟩
                          · have q42 : decide (2147483647 < N) = false := decide_eq_false hv
                            have hv2 : N ≤ 2147483647 := by omega
                            by_cases hz : (c.toNat : Int) = 48
                            · have q43 : ((c.toNat : Int) == 48) = true := beq_iff_eq.mpr hz
                              have hc48 : c = 48 := (u8_int c 48 (by decide)).mp hz
                              by_cases hl : 1 < j
                              · have HT := Aside0.mk (tok_nonum HN.out HNE.out HHD.out HDG.out (numL_none_z (by rw [← HX1.out, slen]; omega) (by rw [List.head?_take, if_neg HNE.out, HHD.out, hc48])))
                                have q44 : decide ((1 : Int) < (X.size : Int)) = true := decide_eq_true (by omega)
                                clear b8_ hall hNV hdv hXj hj0 hx0 hv hz hc48
                                go_wp2
                                go_ret3
                                exact ⟨by rw [HL.out, HLI.out, lexP_terr _ HG.out HN0.out HT.out]; exact rfl, HBN.out⟩
                              · have HT := Aside0.mk (tok_num HN.out HNE.out HHD.out HDG.out (numL_some hdv (by rw [hNV]; exact hv2) (.inl (by rw [← HX1.out, slen]; omega))))
                                rw [hNV] at HT
                                have q44 : decide ((1 : Int) < (X.size : Int)) = false := decide_eq_false (by omega)
                                clear b8_ hall hNV hdv hXj hj0 hx0 hv hz hc48 hl
                                go_upto_region 42 with (fail)
                                have b9_ : ((wr.setCell ⟨g8, 0, none⟩ (.int .i64 2)).setCell ⟨g8, 2, none⟩ (.int .i32 N)).heap[g8]? = some (.cells #[.int .i64 2, .string X, .int .i32 N, .int .i64 (i : Int), .int .i64 (lnA s i), .int .i64 ((i : Int) - stA s i + 1)] 33 (0, 0)) := blk_put (blk_put (B8N.out) 0 _ rfl) 2 _ rfl
                                have hr9_ := Kd.R_far (p := ⟨g8, 2, none⟩) (Kd.R_far (p := ⟨g8, 0, none⟩) (HRN.out) (fun k hk => hk.2) (.int .i64 2)) (fun k hk => hk.2) (.int .i32 N)
                                have hb9_ := Below.setCell (p := ⟨g8, 2, none⟩) (Below.setCell (p := ⟨g8, 0, none⟩) (HBN.out) HGW.out (.int .i64 2)) HGW.out (.int .i32 N)
                                generalize ((wr.setCell ⟨g8, 0, none⟩ (.int .i64 2)).setCell ⟨g8, 2, none⟩ (.int .i32 N)) = w5 at b9_ hr9_ hb9_ ⊢
                                have BX5 := Aside0.mk b9_
                                have HLT5 : Aside0 (g8 < w5.heap.size) := ⟨blk_lt b9_⟩
                                have HR5 := Aside0.mk hr9_
                                have HB5 := Aside0.mk hb9_
                                have c90 : w5.cell? ⟨g8, 0, none⟩ = some (.int .i64 2) := (blk_cell b9_ 0).trans rfl
                                have f90 := blk_frozen b9_ 0
                                have c91 : w5.cell? ⟨g8, 1, none⟩ = some (.string X) := (blk_cell b9_ 1).trans rfl
                                have f91 := blk_frozen b9_ 1
                                have c92 : w5.cell? ⟨g8, 2, none⟩ = some (.int .i32 N) := (blk_cell b9_ 2).trans rfl
                                have f92 := blk_frozen b9_ 2
                                have c93 : w5.cell? ⟨g8, 3, none⟩ = some (.int .i64 (i : Int)) := (blk_cell b9_ 3).trans rfl
                                have f93 := blk_frozen b9_ 3
                                have c94 : w5.cell? ⟨g8, 4, none⟩ = some (.int .i64 (lnA s i)) := (blk_cell b9_ 4).trans rfl
                                have f94 := blk_frozen b9_ 4
                                have c95 : w5.cell? ⟨g8, 5, none⟩ = some (.int .i64 ((i : Int) - stA s i + 1)) := (blk_cell b9_ 5).trans rfl
                                have f95 := blk_frozen b9_ 5
                                clear b9_ hr9_ hb9_
                                go_wp2_with ((with_reducible refine gate_builtin (b := .append) (xs := #[.tmp 139, .tmp 141]) rfl ?_); at_builtin; refine Kd.R_append k33 (w0 := w) w.heap.size rfl (.tmp 139) (.tmp 141) 23 33 (.agg zcells) 56 rfl Try.underlying23 info33 rfl (by decide) (by omega) u5 (acc.map (tk33 s)) (tk33 s ⟨2, (rst s i).take j, N, i⟩) [.int .i64 2, .string X, .int .i32 N, .int .i64 (i : Int), .int .i64 (lnA s i), .int .i64 ((i : Int) - stA s i + 1)] (fun k => True ∧ k ≠ g8) (fun _ => False) rfl rfl ?aP (fun _ hk => hk.elim) ?aF ?aO ?aB ?aS ?aL ?_; (case aP => first | exact k33_mkM _ _ _ _ | (rw [HXE.out]; exact k33_mkM _ _ _ _)); (case aF => exact (fun k hk => ⟨trivial, Nat.ne_of_gt (Nat.lt_of_lt_of_le HLT5.out hk)⟩)); (case aO => exact HR5.out); (case aB => exact HB5.out); (case aS => exact HB5.out.size); (case aL => rw [List.length_map]; have h_ := HA.out; have h1_ := HO.out; omega); intro v9 w9 ho hb hg hat; have HO9 := Aside0.mk ho; have HB9 := Aside0.mk hb; have b9_ := blk_grown BX5.out hg (fun h => (HR5.out.1 g8 h.symm).2 rfl); clear ho hb hg hat c90 f90 c91 f91 c92 f92 c93 f93 c94 f94 c95 f95; have c90 : w9.cell? ⟨g8, 0, none⟩ = some (.int .i64 2) := (blk_cell b9_ 0).trans rfl; have f90 := blk_frozen b9_ 0; have c91 : w9.cell? ⟨g8, 1, none⟩ = some (.string X) := (blk_cell b9_ 1).trans rfl; have f91 := blk_frozen b9_ 1; have c92 : w9.cell? ⟨g8, 2, none⟩ = some (.int .i32 N) := (blk_cell b9_ 2).trans rfl; have f92 := blk_frozen b9_ 2; have c93 : w9.cell? ⟨g8, 3, none⟩ = some (.int .i64 (i : Int)) := (blk_cell b9_ 3).trans rfl; have f93 := blk_frozen b9_ 3; have c94 : w9.cell? ⟨g8, 4, none⟩ = some (.int .i64 (lnA s i)) := (blk_cell b9_ 4).trans rfl; have f94 := blk_frozen b9_ 4; have c95 : w9.cell? ⟨g8, 5, none⟩ = some (.int .i64 ((i : Int) - stA s i + 1)) := (blk_cell b9_ 5).trans rfl; have f95 := blk_frozen b9_ 5; clear b9_)
                                go_roundg k1
                                case measure => omega
                                case rel => exact ⟨i + j, acc ++ [⟨2, (rst s i).take j, N, i⟩], by first | (rw [HEWM.out]; done) | (rw [HEWM2.out]; done) | rfl | go_num, ⟨by have h_ := HK.out; have h1_ := HI.out; have h2_ := tok_bd HT.out; omega⟩, ⟨by have h_ := (tok_bd HT.out).2; rw [rst_len] at h_; have h1_ := HOL.out; omega⟩, ⟨by rw [List.length_append]; have h_ := HA.out; have h1_ := HI.out; have h2_ := (tok_bd HT.out).1; simp only [List.length_cons, List.length_nil]; omega⟩, ⟨by rw [List.map_append]; exact Kd.R_mono HO9.out (fun _ _ => trivial)⟩, ⟨by rw [HLI.out, lexP_tok _ HG.out HN0.out HT.out, app_cons]; congr 2; rw [rst_drop]⟩, HB9⟩
                            · have q43 : ((c.toNat : Int) == 48) = false := beq_eq_false_iff_ne.mpr hz
                              have HT := Aside0.mk (tok_num HN.out HNE.out HHD.out HDG.out (numL_some hdv (by rw [hNV]; exact hv2) (.inr (by rw [List.head?_take, if_neg HNE.out, HHD.out]; intro he; exact hz ((u8_int c 48 (by decide)).mpr (Option.some.inj he))))))
                              rw [hNV] at HT
                              clear b8_ hall hNV hdv hXj hj0 hx0 hv hz
                              go_upto_region 42 with (fail)
                              have b9_ : ((wr.setCell ⟨g8, 0, none⟩ (.int .i64 2)).setCell ⟨g8, 2, none⟩ (.int .i32 N)).heap[g8]? = some (.cells #[.int .i64 2, .string X, .int .i32 N, .int .i64 (i : Int), .int .i64 (lnA s i), .int .i64 ((i : Int) - stA s i + 1)] 33 (0, 0)) := blk_put (blk_put (B8N.out) 0 _ rfl) 2 _ rfl
                              have hr9_ := Kd.R_far (p := ⟨g8, 2, none⟩) (Kd.R_far (p := ⟨g8, 0, none⟩) (HRN.out) (fun k hk => hk.2) (.int .i64 2)) (fun k hk => hk.2) (.int .i32 N)
                              have hb9_ := Below.setCell (p := ⟨g8, 2, none⟩) (Below.setCell (p := ⟨g8, 0, none⟩) (HBN.out) HGW.out (.int .i64 2)) HGW.out (.int .i32 N)
                              generalize ((wr.setCell ⟨g8, 0, none⟩ (.int .i64 2)).setCell ⟨g8, 2, none⟩ (.int .i32 N)) = w5 at b9_ hr9_ hb9_ ⊢
                              have BX5 := Aside0.mk b9_
                              have HLT5 : Aside0 (g8 < w5.heap.size) := ⟨blk_lt b9_⟩
                              have HR5 := Aside0.mk hr9_
                              have HB5 := Aside0.mk hb9_
                              have c90 : w5.cell? ⟨g8, 0, none⟩ = some (.int .i64 2) := (blk_cell b9_ 0).trans rfl
                              have f90 := blk_frozen b9_ 0
                              have c91 : w5.cell? ⟨g8, 1, none⟩ = some (.string X) := (blk_cell b9_ 1).trans rfl
                              have f91 := blk_frozen b9_ 1
                              have c92 : w5.cell? ⟨g8, 2, none⟩ = some (.int .i32 N) := (blk_cell b9_ 2).trans rfl
                              have f92 := blk_frozen b9_ 2
                              have c93 : w5.cell? ⟨g8, 3, none⟩ = some (.int .i64 (i : Int)) := (blk_cell b9_ 3).trans rfl
                              have f93 := blk_frozen b9_ 3
                              have c94 : w5.cell? ⟨g8, 4, none⟩ = some (.int .i64 (lnA s i)) := (blk_cell b9_ 4).trans rfl
                              have f94 := blk_frozen b9_ 4
                              have c95 : w5.cell? ⟨g8, 5, none⟩ = some (.int .i64 ((i : Int) - stA s i + 1)) := (blk_cell b9_ 5).trans rfl
                              have f95 := blk_frozen b9_ 5
                              clear b9_ hr9_ hb9_
                              go_wp2_with ((with_reducible refine gate_builtin (b := .append) (xs := #[.tmp 139, .tmp 141]) rfl ?_); at_builtin; refine Kd.R_append k33 (w0 := w) w.heap.size rfl (.tmp 139) (.tmp 141) 23 33 (.agg zcells) 56 rfl Try.underlying23 info33 rfl (by decide) (by omega) u5 (acc.map (tk33 s)) (tk33 s ⟨2, (rst s i).take j, N, i⟩) [.int .i64 2, .string X, .int .i32 N, .int .i64 (i : Int), .int .i64 (lnA s i), .int .i64 ((i : Int) - stA s i + 1)] (fun k => True ∧ k ≠ g8) (fun _ => False) rfl rfl ?aP (fun _ hk => hk.elim) ?aF ?aO ?aB ?aS ?aL ?_; (case aP => first | exact k33_mkM _ _ _ _ | (rw [HXE.out]; exact k33_mkM _ _ _ _)); (case aF => exact (fun k hk => ⟨trivial, Nat.ne_of_gt (Nat.lt_of_lt_of_le HLT5.out hk)⟩)); (case aO => exact HR5.out); (case aB => exact HB5.out); (case aS => exact HB5.out.size); (case aL => rw [List.length_map]; have h_ := HA.out; have h1_ := HO.out; omega); intro v9 w9 ho hb hg hat; have HO9 := Aside0.mk ho; have HB9 := Aside0.mk hb; have b9_ := blk_grown BX5.out hg (fun h => (HR5.out.1 g8 h.symm).2 rfl); clear ho hb hg hat c90 f90 c91 f91 c92 f92 c93 f93 c94 f94 c95 f95; have c90 : w9.cell? ⟨g8, 0, none⟩ = some (.int .i64 2) := (blk_cell b9_ 0).trans rfl; have f90 := blk_frozen b9_ 0; have c91 : w9.cell? ⟨g8, 1, none⟩ = some (.string X) := (blk_cell b9_ 1).trans rfl; have f91 := blk_frozen b9_ 1; have c92 : w9.cell? ⟨g8, 2, none⟩ = some (.int .i32 N) := (blk_cell b9_ 2).trans rfl; have f92 := blk_frozen b9_ 2; have c93 : w9.cell? ⟨g8, 3, none⟩ = some (.int .i64 (i : Int)) := (blk_cell b9_ 3).trans rfl; have f93 := blk_frozen b9_ 3; have c94 : w9.cell? ⟨g8, 4, none⟩ = some (.int .i64 (lnA s i)) := (blk_cell b9_ 4).trans rfl; have f94 := blk_frozen b9_ 4; have c95 : w9.cell? ⟨g8, 5, none⟩ = some (.int .i64 ((i : Int) - stA s i + 1)) := (blk_cell b9_ 5).trans rfl; have f95 := blk_frozen b9_ 5; clear b9_)
                              go_roundg k1
                              case measure => omega
                              case rel => exact ⟨i + j, acc ++ [⟨2, (rst s i).take j, N, i⟩], by first | (rw [HEWM.out]; done) | (rw [HEWM2.out]; done) | rfl | go_num, ⟨by have h_ := HK.out; have h1_ := HI.out; have h2_ := tok_bd HT.out; omega⟩, ⟨by have h_ := (tok_bd HT.out).2; rw [rst_len] at h_; have h1_ := HOL.out; omega⟩, ⟨by rw [List.length_append]; have h_ := HA.out; have h1_ := HI.out; have h2_ := (tok_bd HT.out).1; simp only [List.length_cons, List.length_nil]; omega⟩, ⟨by rw [List.map_append]; exact Kd.R_mono HO9.out (fun _ _ => trivial)⟩, ⟨by rw [HLI.out, lexP_tok _ HG.out HN0.out HT.out, app_cons]; congr 2; rw [rst_drop]⟩, HB9⟩

                  · have hdg : dig c = false := by simpa using hdg
                    have HDG := Aside0.mk hdg
                    clear hdg
                    by_cases hw : (rst s i).take n ∈ wordsL
                    · have HWT := Aside0.mk (tok_word HN.out HNE.out HHD.out HDG.out hw)
                      have HWD : Aside0 (decide (X.data.toList ∈ wordsL) = true) := ⟨by rw [HX1.out]; exact decide_eq_true hw⟩
                      clear hw
                      go_upto_region 42 with (first
                        | (go_at_call 27; (with_reducible refine (refdigit_is c HDG.out _).mono ?_); rintro e w3 ⟨rfl, hd⟩; have HD3 := Aside0.mk hd; clear hd; clear c80 f80 c81 f81 c82 f82 c83 f83 c84 f84 c85 f85; have b8_ := blk_below HB8.out HD3.out.below; have c80 : w3.cell? ⟨g8, 0, none⟩ = some (.int .i64 0) := (blk_cell b8_ 0).trans rfl; have f80 := blk_frozen b8_ 0; have c81 : w3.cell? ⟨g8, 1, none⟩ = some (.string X) := (blk_cell b8_ 1).trans rfl; have f81 := blk_frozen b8_ 1; have c82 : w3.cell? ⟨g8, 2, none⟩ = some (.int .i32 0) := (blk_cell b8_ 2).trans rfl; have f82 := blk_frozen b8_ 2; have c83 : w3.cell? ⟨g8, 3, none⟩ = some (.int .i64 (i : Int)) := (blk_cell b8_ 3).trans rfl; have f83 := blk_frozen b8_ 3; have c84 : w3.cell? ⟨g8, 4, none⟩ = some (.int .i64 (lnA s i)) := (blk_cell b8_ 4).trans rfl; have f84 := blk_frozen b8_ 4; have c85 : w3.cell? ⟨g8, 5, none⟩ = some (.int .i64 ((i : Int) - stA s i + 1)) := (blk_cell b8_ 5).trans rfl; have f85 := blk_frozen b8_ 5; clear b8_)
                        | (go_at_call 19; (with_reducible refine (refword_calls X _ HWD.out).mono ?_); rintro e w4 ⟨rfl, hb⟩; have HB4 := Aside0.mk hb; clear hb; clear c80 f80 c81 f81 c82 f82 c83 f83 c84 f84 c85 f85; have HRN := Aside0.mk (Kd.R_below HRg.out (below_then HD3.out.below HD3.out.below.size HB4.out)); have HBN := Aside0.mk (below_then HBc.out HBc.out.size (below_then HD3.out.below HD3.out.below.size HB4.out)); have b8_ := blk_below HB8.out (below_then HD3.out.below HD3.out.below.size HB4.out); have B8N := Aside0.mk b8_; have c80 : w4.cell? ⟨g8, 0, none⟩ = some (.int .i64 0) := (blk_cell b8_ 0).trans rfl; have f80 := blk_frozen b8_ 0; have c81 : w4.cell? ⟨g8, 1, none⟩ = some (.string X) := (blk_cell b8_ 1).trans rfl; have f81 := blk_frozen b8_ 1; have c82 : w4.cell? ⟨g8, 2, none⟩ = some (.int .i32 0) := (blk_cell b8_ 2).trans rfl; have f82 := blk_frozen b8_ 2; have c83 : w4.cell? ⟨g8, 3, none⟩ = some (.int .i64 (i : Int)) := (blk_cell b8_ 3).trans rfl; have f83 := blk_frozen b8_ 3; have c84 : w4.cell? ⟨g8, 4, none⟩ = some (.int .i64 (lnA s i)) := (blk_cell b8_ 4).trans rfl; have f84 := blk_frozen b8_ 4; have c85 : w4.cell? ⟨g8, 5, none⟩ = some (.int .i64 ((i : Int) - stA s i + 1)) := (blk_cell b8_ 5).trans rfl; have f85 := blk_frozen b8_ 5; clear b8_))
                      have b9_ : (w4.setCell ⟨g8, 0, none⟩ (.int .i64 3)).heap[g8]? = some (.cells #[.int .i64 3, .string X, .int .i32 0, .int .i64 (i : Int), .int .i64 (lnA s i), .int .i64 ((i : Int) - stA s i + 1)] 33 (0, 0)) := blk_put (B8N.out) 0 _ rfl
                      have hr9_ := Kd.R_far (p := ⟨g8, 0, none⟩) (HRN.out) (fun k hk => hk.2) (.int .i64 3)
                      have hb9_ := Below.setCell (p := ⟨g8, 0, none⟩) (HBN.out) HGW.out (.int .i64 3)
                      generalize (w4.setCell ⟨g8, 0, none⟩ (.int .i64 3)) = w5 at b9_ hr9_ hb9_ ⊢
                      have BX5 := Aside0.mk b9_
                      have HLT5 : Aside0 (g8 < w5.heap.size) := ⟨blk_lt b9_⟩
                      have HR5 := Aside0.mk hr9_
                      have HB5 := Aside0.mk hb9_
                      have c90 : w5.cell? ⟨g8, 0, none⟩ = some (.int .i64 3) := (blk_cell b9_ 0).trans rfl
                      have f90 := blk_frozen b9_ 0
                      have c91 : w5.cell? ⟨g8, 1, none⟩ = some (.string X) := (blk_cell b9_ 1).trans rfl
                      have f91 := blk_frozen b9_ 1
                      have c92 : w5.cell? ⟨g8, 2, none⟩ = some (.int .i32 0) := (blk_cell b9_ 2).trans rfl
                      have f92 := blk_frozen b9_ 2
                      have c93 : w5.cell? ⟨g8, 3, none⟩ = some (.int .i64 (i : Int)) := (blk_cell b9_ 3).trans rfl
                      have f93 := blk_frozen b9_ 3
                      have c94 : w5.cell? ⟨g8, 4, none⟩ = some (.int .i64 (lnA s i)) := (blk_cell b9_ 4).trans rfl
                      have f94 := blk_frozen b9_ 4
                      have c95 : w5.cell? ⟨g8, 5, none⟩ = some (.int .i64 ((i : Int) - stA s i + 1)) := (blk_cell b9_ 5).trans rfl
                      have f95 := blk_frozen b9_ 5
                      clear b9_ hr9_ hb9_
                      go_wp2_with ((with_reducible refine gate_builtin (b := .append) (xs := #[.tmp 139, .tmp 141]) rfl ?_); at_builtin; refine Kd.R_append k33 (w0 := w) w.heap.size rfl (.tmp 139) (.tmp 141) 23 33 (.agg zcells) 56 rfl Try.underlying23 info33 rfl (by decide) (by omega) u5 (acc.map (tk33 s)) (tk33 s ⟨3, (rst s i).take n, 0, i⟩) [.int .i64 3, .string X, .int .i32 0, .int .i64 (i : Int), .int .i64 (lnA s i), .int .i64 ((i : Int) - stA s i + 1)] (fun k => True ∧ k ≠ g8) (fun _ => False) rfl rfl ?aP (fun _ hk => hk.elim) ?aF ?aO ?aB ?aS ?aL ?_; (case aP => first | exact k33_mkM _ _ _ _ | (rw [HXE.out]; exact k33_mkM _ _ _ _)); (case aF => exact (fun k hk => ⟨trivial, Nat.ne_of_gt (Nat.lt_of_lt_of_le HLT5.out hk)⟩)); (case aO => exact HR5.out); (case aB => exact HB5.out); (case aS => exact HB5.out.size); (case aL => rw [List.length_map]; have h_ := HA.out; have h1_ := HO.out; omega); intro v9 w9 ho hb hg hat; have HO9 := Aside0.mk ho; have HB9 := Aside0.mk hb; have b9_ := blk_grown BX5.out hg (fun h => (HR5.out.1 g8 h.symm).2 rfl); clear ho hb hg hat c90 f90 c91 f91 c92 f92 c93 f93 c94 f94 c95 f95; have c90 : w9.cell? ⟨g8, 0, none⟩ = some (.int .i64 3) := (blk_cell b9_ 0).trans rfl; have f90 := blk_frozen b9_ 0; have c91 : w9.cell? ⟨g8, 1, none⟩ = some (.string X) := (blk_cell b9_ 1).trans rfl; have f91 := blk_frozen b9_ 1; have c92 : w9.cell? ⟨g8, 2, none⟩ = some (.int .i32 0) := (blk_cell b9_ 2).trans rfl; have f92 := blk_frozen b9_ 2; have c93 : w9.cell? ⟨g8, 3, none⟩ = some (.int .i64 (i : Int)) := (blk_cell b9_ 3).trans rfl; have f93 := blk_frozen b9_ 3; have c94 : w9.cell? ⟨g8, 4, none⟩ = some (.int .i64 (lnA s i)) := (blk_cell b9_ 4).trans rfl; have f94 := blk_frozen b9_ 4; have c95 : w9.cell? ⟨g8, 5, none⟩ = some (.int .i64 ((i : Int) - stA s i + 1)) := (blk_cell b9_ 5).trans rfl; have f95 := blk_frozen b9_ 5; clear b9_)
                      go_roundg k1
                      case measure => omega
                      case rel => exact ⟨i + n, acc ++ [⟨3, (rst s i).take n, 0, i⟩], by first | (rw [HEWM.out]; done) | (rw [HEWM2.out]; done) | rfl | go_num, ⟨by have h_ := HK.out; have h1_ := HI.out; have h2_ := tok_bd HWT.out; omega⟩, ⟨by have h_ := (tok_bd HWT.out).2; rw [rst_len] at h_; have h1_ := HOL.out; omega⟩, ⟨by rw [List.length_append]; have h_ := HA.out; have h1_ := HI.out; have h2_ := (tok_bd HWT.out).1; simp only [List.length_cons, List.length_nil]; omega⟩, ⟨by rw [List.map_append]; exact Kd.R_mono HO9.out (fun _ _ => trivial)⟩, ⟨by rw [HLI.out, lexP_tok _ HG.out HN0.out HWT.out, app_cons]; congr 2; rw [rst_drop]⟩, HB9⟩
                    · have HWT := Aside0.mk (tok_name HN.out HNE.out HHD.out HDG.out hw)
                      have HWD : Aside0 (decide (X.data.toList ∈ wordsL) = false) := ⟨by rw [HX1.out]; exact decide_eq_false hw⟩
                      clear hw
                      by_cases h64 : 64 < n
                      · have HWE : Aside0 (tokL (rst s i) = .err 2) := ⟨by rw [HWT.out, if_pos h64]⟩
                        have q34 : (64 : Int) < (X.size : Int) := by have h_ := HXS.out; omega
                        clear h64
                        go_wp2_with (first
                          | (go_at_call 27; (with_reducible refine (refdigit_is c HDG.out _).mono ?_); rintro e w3 ⟨rfl, hd⟩; have HD3 := Aside0.mk hd; clear hd; clear c80 f80 c81 f81 c82 f82 c83 f83 c84 f84 c85 f85; have b8_ := blk_below HB8.out HD3.out.below; have c80 : w3.cell? ⟨g8, 0, none⟩ = some (.int .i64 0) := (blk_cell b8_ 0).trans rfl; have f80 := blk_frozen b8_ 0; have c81 : w3.cell? ⟨g8, 1, none⟩ = some (.string X) := (blk_cell b8_ 1).trans rfl; have f81 := blk_frozen b8_ 1; have c82 : w3.cell? ⟨g8, 2, none⟩ = some (.int .i32 0) := (blk_cell b8_ 2).trans rfl; have f82 := blk_frozen b8_ 2; have c83 : w3.cell? ⟨g8, 3, none⟩ = some (.int .i64 (i : Int)) := (blk_cell b8_ 3).trans rfl; have f83 := blk_frozen b8_ 3; have c84 : w3.cell? ⟨g8, 4, none⟩ = some (.int .i64 (lnA s i)) := (blk_cell b8_ 4).trans rfl; have f84 := blk_frozen b8_ 4; have c85 : w3.cell? ⟨g8, 5, none⟩ = some (.int .i64 ((i : Int) - stA s i + 1)) := (blk_cell b8_ 5).trans rfl; have f85 := blk_frozen b8_ 5; clear b8_)
                          | (go_at_call 19; (with_reducible refine (refword_calls X _ HWD.out).mono ?_); rintro e w4 ⟨rfl, hb⟩; have HB4 := Aside0.mk hb; clear hb; clear c80 f80 c81 f81 c82 f82 c83 f83 c84 f84 c85 f85; have HRN := Aside0.mk (Kd.R_below HRg.out (below_then HD3.out.below HD3.out.below.size HB4.out)); have HBN := Aside0.mk (below_then HBc.out HBc.out.size (below_then HD3.out.below HD3.out.below.size HB4.out)); have b8_ := blk_below HB8.out (below_then HD3.out.below HD3.out.below.size HB4.out); have B8N := Aside0.mk b8_; have c80 : w4.cell? ⟨g8, 0, none⟩ = some (.int .i64 0) := (blk_cell b8_ 0).trans rfl; have f80 := blk_frozen b8_ 0; have c81 : w4.cell? ⟨g8, 1, none⟩ = some (.string X) := (blk_cell b8_ 1).trans rfl; have f81 := blk_frozen b8_ 1; have c82 : w4.cell? ⟨g8, 2, none⟩ = some (.int .i32 0) := (blk_cell b8_ 2).trans rfl; have f82 := blk_frozen b8_ 2; have c83 : w4.cell? ⟨g8, 3, none⟩ = some (.int .i64 (i : Int)) := (blk_cell b8_ 3).trans rfl; have f83 := blk_frozen b8_ 3; have c84 : w4.cell? ⟨g8, 4, none⟩ = some (.int .i64 (lnA s i)) := (blk_cell b8_ 4).trans rfl; have f84 := blk_frozen b8_ 4; have c85 : w4.cell? ⟨g8, 5, none⟩ = some (.int .i64 ((i : Int) - stA s i + 1)) := (blk_cell b8_ 5).trans rfl; have f85 := blk_frozen b8_ 5; clear b8_))
                        go_ret3
                        exact ⟨by rw [HL.out, HLI.out, lexP_terr _ HG.out HN0.out HWE.out]; exact rfl, below_then HBc.out HBc.out.size (below_then HD3.out.below HD3.out.below.size HB4.out)⟩
                      · have HWE : Aside0 (tokL (rst s i) = .ok 1 n 0) := ⟨by rw [HWT.out, if_neg h64]⟩
                        have q34 : (X.size : Int) ≤ 64 := by have h_ := HXS.out; omega
                        clear h64
                        go_upto_region 42 with (first
                          | (go_at_call 27; (with_reducible refine (refdigit_is c HDG.out _).mono ?_); rintro e w3 ⟨rfl, hd⟩; have HD3 := Aside0.mk hd; clear hd; clear c80 f80 c81 f81 c82 f82 c83 f83 c84 f84 c85 f85; have b8_ := blk_below HB8.out HD3.out.below; have c80 : w3.cell? ⟨g8, 0, none⟩ = some (.int .i64 0) := (blk_cell b8_ 0).trans rfl; have f80 := blk_frozen b8_ 0; have c81 : w3.cell? ⟨g8, 1, none⟩ = some (.string X) := (blk_cell b8_ 1).trans rfl; have f81 := blk_frozen b8_ 1; have c82 : w3.cell? ⟨g8, 2, none⟩ = some (.int .i32 0) := (blk_cell b8_ 2).trans rfl; have f82 := blk_frozen b8_ 2; have c83 : w3.cell? ⟨g8, 3, none⟩ = some (.int .i64 (i : Int)) := (blk_cell b8_ 3).trans rfl; have f83 := blk_frozen b8_ 3; have c84 : w3.cell? ⟨g8, 4, none⟩ = some (.int .i64 (lnA s i)) := (blk_cell b8_ 4).trans rfl; have f84 := blk_frozen b8_ 4; have c85 : w3.cell? ⟨g8, 5, none⟩ = some (.int .i64 ((i : Int) - stA s i + 1)) := (blk_cell b8_ 5).trans rfl; have f85 := blk_frozen b8_ 5; clear b8_)
                          | (go_at_call 19; (with_reducible refine (refword_calls X _ HWD.out).mono ?_); rintro e w4 ⟨rfl, hb⟩; have HB4 := Aside0.mk hb; clear hb; clear c80 f80 c81 f81 c82 f82 c83 f83 c84 f84 c85 f85; have HRN := Aside0.mk (Kd.R_below HRg.out (below_then HD3.out.below HD3.out.below.size HB4.out)); have HBN := Aside0.mk (below_then HBc.out HBc.out.size (below_then HD3.out.below HD3.out.below.size HB4.out)); have b8_ := blk_below HB8.out (below_then HD3.out.below HD3.out.below.size HB4.out); have B8N := Aside0.mk b8_; have c80 : w4.cell? ⟨g8, 0, none⟩ = some (.int .i64 0) := (blk_cell b8_ 0).trans rfl; have f80 := blk_frozen b8_ 0; have c81 : w4.cell? ⟨g8, 1, none⟩ = some (.string X) := (blk_cell b8_ 1).trans rfl; have f81 := blk_frozen b8_ 1; have c82 : w4.cell? ⟨g8, 2, none⟩ = some (.int .i32 0) := (blk_cell b8_ 2).trans rfl; have f82 := blk_frozen b8_ 2; have c83 : w4.cell? ⟨g8, 3, none⟩ = some (.int .i64 (i : Int)) := (blk_cell b8_ 3).trans rfl; have f83 := blk_frozen b8_ 3; have c84 : w4.cell? ⟨g8, 4, none⟩ = some (.int .i64 (lnA s i)) := (blk_cell b8_ 4).trans rfl; have f84 := blk_frozen b8_ 4; have c85 : w4.cell? ⟨g8, 5, none⟩ = some (.int .i64 ((i : Int) - stA s i + 1)) := (blk_cell b8_ 5).trans rfl; have f85 := blk_frozen b8_ 5; clear b8_))
                        have b9_ : (w4.setCell ⟨g8, 0, none⟩ (.int .i64 1)).heap[g8]? = some (.cells #[.int .i64 1, .string X, .int .i32 0, .int .i64 (i : Int), .int .i64 (lnA s i), .int .i64 ((i : Int) - stA s i + 1)] 33 (0, 0)) := blk_put (B8N.out) 0 _ rfl
                        have hr9_ := Kd.R_far (p := ⟨g8, 0, none⟩) (HRN.out) (fun k hk => hk.2) (.int .i64 1)
                        have hb9_ := Below.setCell (p := ⟨g8, 0, none⟩) (HBN.out) HGW.out (.int .i64 1)
                        generalize (w4.setCell ⟨g8, 0, none⟩ (.int .i64 1)) = w5 at b9_ hr9_ hb9_ ⊢
                        have BX5 := Aside0.mk b9_
                        have HLT5 : Aside0 (g8 < w5.heap.size) := ⟨blk_lt b9_⟩
                        have HR5 := Aside0.mk hr9_
                        have HB5 := Aside0.mk hb9_
                        have c90 : w5.cell? ⟨g8, 0, none⟩ = some (.int .i64 1) := (blk_cell b9_ 0).trans rfl
                        have f90 := blk_frozen b9_ 0
                        have c91 : w5.cell? ⟨g8, 1, none⟩ = some (.string X) := (blk_cell b9_ 1).trans rfl
                        have f91 := blk_frozen b9_ 1
                        have c92 : w5.cell? ⟨g8, 2, none⟩ = some (.int .i32 0) := (blk_cell b9_ 2).trans rfl
                        have f92 := blk_frozen b9_ 2
                        have c93 : w5.cell? ⟨g8, 3, none⟩ = some (.int .i64 (i : Int)) := (blk_cell b9_ 3).trans rfl
                        have f93 := blk_frozen b9_ 3
                        have c94 : w5.cell? ⟨g8, 4, none⟩ = some (.int .i64 (lnA s i)) := (blk_cell b9_ 4).trans rfl
                        have f94 := blk_frozen b9_ 4
                        have c95 : w5.cell? ⟨g8, 5, none⟩ = some (.int .i64 ((i : Int) - stA s i + 1)) := (blk_cell b9_ 5).trans rfl
                        have f95 := blk_frozen b9_ 5
                        clear b9_ hr9_ hb9_
                        go_wp2_with ((with_reducible refine gate_builtin (b := .append) (xs := #[.tmp 139, .tmp 141]) rfl ?_); at_builtin; refine Kd.R_append k33 (w0 := w) w.heap.size rfl (.tmp 139) (.tmp 141) 23 33 (.agg zcells) 56 rfl Try.underlying23 info33 rfl (by decide) (by omega) u5 (acc.map (tk33 s)) (tk33 s ⟨1, (rst s i).take n, 0, i⟩) [.int .i64 1, .string X, .int .i32 0, .int .i64 (i : Int), .int .i64 (lnA s i), .int .i64 ((i : Int) - stA s i + 1)] (fun k => True ∧ k ≠ g8) (fun _ => False) rfl rfl ?aP (fun _ hk => hk.elim) ?aF ?aO ?aB ?aS ?aL ?_; (case aP => first | exact k33_mkM _ _ _ _ | (rw [HXE.out]; exact k33_mkM _ _ _ _)); (case aF => exact (fun k hk => ⟨trivial, Nat.ne_of_gt (Nat.lt_of_lt_of_le HLT5.out hk)⟩)); (case aO => exact HR5.out); (case aB => exact HB5.out); (case aS => exact HB5.out.size); (case aL => rw [List.length_map]; have h_ := HA.out; have h1_ := HO.out; omega); intro v9 w9 ho hb hg hat; have HO9 := Aside0.mk ho; have HB9 := Aside0.mk hb; have b9_ := blk_grown BX5.out hg (fun h => (HR5.out.1 g8 h.symm).2 rfl); clear ho hb hg hat c90 f90 c91 f91 c92 f92 c93 f93 c94 f94 c95 f95; have c90 : w9.cell? ⟨g8, 0, none⟩ = some (.int .i64 1) := (blk_cell b9_ 0).trans rfl; have f90 := blk_frozen b9_ 0; have c91 : w9.cell? ⟨g8, 1, none⟩ = some (.string X) := (blk_cell b9_ 1).trans rfl; have f91 := blk_frozen b9_ 1; have c92 : w9.cell? ⟨g8, 2, none⟩ = some (.int .i32 0) := (blk_cell b9_ 2).trans rfl; have f92 := blk_frozen b9_ 2; have c93 : w9.cell? ⟨g8, 3, none⟩ = some (.int .i64 (i : Int)) := (blk_cell b9_ 3).trans rfl; have f93 := blk_frozen b9_ 3; have c94 : w9.cell? ⟨g8, 4, none⟩ = some (.int .i64 (lnA s i)) := (blk_cell b9_ 4).trans rfl; have f94 := blk_frozen b9_ 4; have c95 : w9.cell? ⟨g8, 5, none⟩ = some (.int .i64 ((i : Int) - stA s i + 1)) := (blk_cell b9_ 5).trans rfl; have f95 := blk_frozen b9_ 5; clear b9_)
                        go_roundg k1
                        case measure => omega
                        case rel => exact ⟨i + n, acc ++ [⟨1, (rst s i).take n, 0, i⟩], by first | (rw [HEWM.out]; done) | (rw [HEWM2.out]; done) | rfl | go_num, ⟨by have h_ := HK.out; have h1_ := HI.out; have h2_ := tok_bd HWE.out; omega⟩, ⟨by have h_ := (tok_bd HWE.out).2; rw [rst_len] at h_; have h1_ := HOL.out; omega⟩, ⟨by rw [List.length_append]; have h_ := HA.out; have h1_ := HI.out; have h2_ := (tok_bd HWE.out).1; simp only [List.length_cons, List.length_nil]; omega⟩, ⟨by rw [List.map_append]; exact Kd.R_mono HO9.out (fun _ _ => trivial)⟩, ⟨by rw [HLI.out, lexP_tok _ HG.out HN0.out HWE.out, app_cons]; congr 2; rw [rst_drop]⟩, HB9⟩

end Go.Proofs.Ytbmabnmidacpdaa.L
