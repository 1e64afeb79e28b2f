import Derived.Test.YtbmabnmidacpdaaProg
import Derived.Below
import Derived.Deep.Draws
import Derived.Deep.AppendLies
import Derived.Maps.AppendAt
import Derived.OwnWalk
import Derived.Laws.BytesArg
import Derived.Laws.MakeOwn
import Derived.Laws.OwnMore
import Derived.Deep.OwnRows
import Derived.Tactics
import Derived.Lib.ConvBytes
import Derived.Laws.Slices
import Derived.WalkKit
import Derived.KernelRfl
import Derived.RowKit3
import Derived.Deep.LoopGhost
import Derived.Deep.QuietTactic
import Derived.BigQuiet
import Derived.WideLaws
import Derived.Deep.DeepCutAuto
import Derived.Deep.CutBlock
import Derived.Deep.RegionHeld3
import Derived.Laws.Rows
import Derived.Lib.AppendStr
import Derived.ArgAppend
import Derived.Laws.IdiomCopy
import Derived.OrdersHeld
import Derived.Laws.BitsLemmas
import Derived.RowKit
import Derived.Test.YtbmabnmidacpdaaWWords
import Derived.Test.YtbmabnmidacpdaaWLast
import Derived.Test.YtbmabnmidacpdaaWTab
import Derived.Test.YtbmabnmidacpdaaWQPut
import Derived.Test.YtbmabnmidacpdaaWApart
import Derived.Test.YtbmabnmidacpdaaWArr
import Derived.Test.YtbmabnmidacpdaaWZeros
import Derived.Test.YtbmabnmidacpdaaWFoot
import Derived.Test.YtbmabnmidacpdaaWKept
import Derived.Test.YtbmabnmidacpdaaWShare
import Derived.Test.YtbmabnmidacpdaaWN
import Derived.Test.YtbmabnmidacpdaaWEqStruct
import Derived.Test.YtbmabnmidacpdaaWGuard
import Derived.Test.YtbmabnmidacpdaaWNEv
import Derived.Test.YtbmabnmidacpdaaWMore
import Derived.Test.YtbmabnmidacpdaaX1
import Derived.Test.YtbmabnmidacpdaaX2
import Derived.Test.YtbmabnmidacpdaaX3
import Derived.Test.YtbmabnmidacpdaaX4
import Derived.Test.YtbmabnmidacpdaaSh
import Derived.Test.YtbmabnmidacpdaaLxA
import Derived.Test.YtbmabnmidacpdaaLxB
import Derived.Test.YtbmabnmidacpdaaLxC
import Derived.Test.YtbmabnmidacpdaaLxD
import Derived.Test.YtbmabnmidacpdaaLxP
import Derived.Test.YtbmabnmidacpdaaHw
import Derived.Test.YtbmabnmidacpdaaLxE
import Derived.Test.YtbmabnmidacpdaaLxS
import Derived.Test.YtbmabnmidacpdaaLxT
import Derived.Test.YtbmabnmidacpdaaLxV
import Derived.DataShut
import Derived.Deep.RegionLawGrows
import Derived.Deep.Upon
import Derived.Deep.MidRow
namespace Go.Proofs.Ytbmabnmidacpdaa.L
open Go.RowKit Go.Proofs.Ytbmabnmidacpdaa.X Go.Proofs.YtbmabnmidacpdaaW.PrintWords Go.Proofs.YtbmabnmidacpdaaW.PrintLast Go.Proofs.YtbmabnmidacpdaaW.PrintMore
attribute [local go_sem] max2_int min2_int max_two min_two max_three min_three max_four min_four   -- for this text's walks alone
set_option linter.unusedVariables false
set_option linter.unusedSimpArgs false
/-! Names, purely. -/
def nmB (l : List UInt8) : Bool := decide (l ≠ []) && decide (l.length ≤ 64) && !(l.head?.any dig) && l.all idc && !decide (l ∈ wordsL)
theorem refword_k (t : ByteArray) : ∀ k, brazierref07_IsWord.f (10 + k) t = some (decide (t.data.toList ∈ wordsL))
  | 0 => refword_f t
  | k + 1 => brazierref07_IsWord.mono t (10 + k) _ (refword_k t k)
theorem ltr_dig {c : UInt8} (h : ltr c = true) : dig c = false := by
  unfold ltr at h
  unfold dig
  have h95 : ((c == 95) = true) → c.toNat = 95 := fun e => by rw [beq_iff_eq.mp e]; rfl
  simp only [Bool.or_eq_true, Bool.and_eq_true, decide_eq_true_eq] at h
  rw [Bool.and_eq_false_iff, decide_eq_false_iff_not, decide_eq_false_iff_not]
  rcases h with (⟨h1, h2⟩ | ⟨h1, h2⟩) | h
  · right; omega
  · right; omega
  · right; have := h95 h; omega
theorem isname_l (t : ByteArray) (hs : t.size ≤ 1000000000) : ∀ (m j : Nat), j + m = t.size → 1 ≤ j →
    lexer_IsName.l0 (m + 1) t (t.size : Int) (j : Int) = some ((rst t j).all idc && (decide (t.size ≤ 64) && !decide (t.data.toList ∈ wordsL))) := by
  intro m
  induction m with
  | zero =>
    intro j h h1
    have hr : rst t j = [] := by unfold rst; rw [List.drop_eq_nil_iff, slen]; omega
    unfold lexer_IsName.l0
    rw [if_neg (by omega), hr, if_pos (by omega), word_f]
    show (if (t.size : Int) ≤ 64 then _ else _) = some (true && _)
    by_cases h2 : t.size ≤ 64
    · rw [if_pos (by omega), decide_eq_true h2]
      simp
    · rw [if_neg (by omega), decide_eq_false h2]
      simp
  | succ m ih =>
    intro j h h1
    obtain ⟨c, r, hcr, hbt⟩ := rst_cons t j (by omega)
    have hr : rst t (j + 1) = r := by
      rw [← rst_drop, hcr]; rfl
    have e1 : wrap64 ((j : Int) + 1) = ((j + 1 : Nat) : Int) := by rw [w64 _ (by omega) (by omega)]; rfl
    have ihj := ih (j + 1) (by omega) (by omega)
    rw [hr] at ihj
    unfold lexer_IsName.l0
    rw [if_pos (by omega), if_pos (by omega), if_pos (by omega), ← hbt, isLetter_f, isDigit_f, e1, hcr]
    have hj0 : ¬ ((j : Int) = 0) := by omega
    simp only [Option.bind_some, List.all_cons, hj0, if_false]
    rw [ihj]
    unfold idc
    cases ltr c <;> cases dig c <;> simp
theorem isname_f (t : ByteArray) (hs : t.size ≤ 1000000000) : lexer_IsName.f (t.size + 1) t = some (nmB t.data.toList) := by
  have h0 : rst t 0 = t.data.toList := rfl
  unfold lexer_IsName.f
  by_cases hz : t.size = 0
  · have hl : t.data.toList = [] := List.length_eq_zero_iff.mp (by rw [slen]; exact hz)
    rw [hz, hl]
    unfold lexer_IsName.l0
    rw [if_neg (by omega), if_neg (by rw [hz]; decide)]
    rfl
  · obtain ⟨c, r, hcr, hbt⟩ := rst_cons t 0 (by omega)
    obtain ⟨m, hm⟩ : ∃ m, t.size = m + 1 := ⟨t.size - 1, by omega⟩
    have hr : rst t 1 = r := by
      have h1 := rst_drop t 0 1
      rw [hcr] at h1
      exact h1.symm
    have ih := isname_l t hs m 1 (by omega) (by omega)
    rw [hr, ← hm] at ih
    have hlen : t.data.toList.length = t.size := slen t
    rw [h0] at hcr
    unfold lexer_IsName.l0
    have hbt : (c.toNat : Int) = bt t 0 := hbt
    rw [if_pos (by omega), if_pos (by omega), if_pos (by omega), ← hbt, isLetter_f, isDigit_f]
    simp only [Option.bind_some]
    rw [show wrap64 (0 + 1) = ((1 : Nat) : Int) from by rw [w64 _ (by omega) (by omega)]; rfl, ih]
    simp only [if_true]
    unfold nmB
    rw [← hlen, hcr]
    cases hl : ltr c with
    | true =>
      have hd := ltr_dig hl
      rw [if_pos rfl]
      simp [hd, idc, hl]
      have hf : (fun c => ltr c || dig c) = idc := rfl
      try rw [hf]
      cases r.all idc <;> simp
    | false =>
      rw [if_neg (by decide)]
      cases hd : dig c with
      | true => simp [hd]
      | false => simp [idc, hl, hd]
theorem refname_l (t : ByteArray) (hs : t.size ≤ 1000000000) : ∀ (m j k : Nat), j + m = t.size → m < k →
    brazierref07_IsName.l0 k t (j : Int) = some ((rst t j).all idc) := by
  intro m
  induction m with
  | zero =>
    intro j k h hk
    obtain ⟨k, rfl⟩ : ∃ q, k = q + 1 := ⟨k - 1, by omega⟩
    have hr : rst t j = [] := by unfold rst; rw [List.drop_eq_nil_iff, slen]; omega
    unfold brazierref07_IsName.l0
    rw [if_neg (by omega), hr]
    rfl
  | succ m ih =>
    intro j k h hk
    obtain ⟨k, rfl⟩ : ∃ q, k = q + 1 := ⟨k - 1, by omega⟩
    obtain ⟨c, r, hcr, hbt⟩ := rst_cons t j (by omega)
    have hr : rst t (j + 1) = r := by
      rw [← rst_drop, hcr]; rfl
    have e1 : wrap64 ((j : Int) + 1) = ((j + 1 : Nat) : Int) := by rw [w64 _ (by omega) (by omega)]; rfl
    have ihj := ih (j + 1) k (by omega) (by omega)
    rw [hr] at ihj
    unfold brazierref07_IsName.l0
    rw [if_pos (by omega), if_pos (by omega), ← hbt, refletter_f, refdigit_f, e1, hcr]
    simp only [Option.bind_some, List.all_cons]
    rw [ihj]
    unfold idc
    cases ltr c <;> cases dig c <;> simp
theorem refname_f (t : ByteArray) (hs : t.size ≤ 1000000000) : brazierref07_IsName.f (10 + (t.size + 3)) t = some (nmB t.data.toList) := by
  have h0 : rst t 0 = t.data.toList := rfl
  have hlen : t.data.toList.length = t.size := slen t
  have hj : ∀ b : Bool, brazierref07_IsName.j0 (10 + (t.size + 3)) t b = if b = true then some false else some (t.data.toList.all idc) := fun b => by
    rw [show 10 + (t.size + 3) = (t.size + 12) + 1 from by omega]
    unfold brazierref07_IsName.j0
    rw [← h0, ← refname_l t hs t.size 0 (t.size + 12) (by omega) (by omega)]
    rfl
  unfold brazierref07_IsName.f nmB
  by_cases hz : t.size = 0
  · have hl : t.data.toList = [] := List.length_eq_zero_iff.mp (by rw [slen]; exact hz)
    rw [if_pos (by omega), hj, hl]
    rfl
  · rw [if_neg (by omega)]
    have hne : t.data.toList ≠ [] := fun e => hz (by rw [← hlen, e]; rfl)
    by_cases h64 : t.size ≤ 64
    · rw [if_neg (by omega), if_pos (by omega)]
      obtain ⟨c, r, hcr, hbt⟩ := rst_cons t 0 (by omega)
      rw [h0] at hcr
      have hbt : (c.toNat : Int) = bt t 0 := hbt
      rw [← hbt, refdigit_f, refword_k t (t.size + 3)]
      simp only [Option.bind_some, hj]
      rw [decide_eq_true hne, hlen, decide_eq_true h64, hcr]
      cases hd : dig c with
      | true => simp [hd]
      | false =>
        by_cases hw : c :: r ∈ wordsL
        · simp [hw]
        · simp [hw, hd]
    · rw [if_pos (by omega), hj, hlen, decide_eq_false h64]
      simp
theorem isname_calls (t : ByteArray) (hs : t.size ≤ 1000000000) (w : World) {b : Bool} (h : nmB t.data.toList = b) : Calls Try.prog 16 #[.string t] w fun e w' => e = .returned (.bool b) ∧ Drawn0 w w' :=
  lexer_IsName.calls _ t b w (by rw [isname_f t hs, h])
theorem refname_calls (t : ByteArray) (hs : t.size ≤ 1000000000) (w : World) {b : Bool} (h : nmB t.data.toList = b) : Calls Try.prog 17 #[.string t] w fun e w' => e = .returned (.bool b) ∧ Below w.heap.size w w' :=
  brazierref07_IsName.calls _ t b w (by rw [refname_f t hs, h])
theorem isword_calls (t : ByteArray) (w : World) {b : Bool} (h : decide (t.data.toList ∈ wordsL) = b) : Calls Try.prog 18 #[.string t] w fun e w' => e = .returned (.bool b) ∧ Drawn0 w w' :=
  lexer_IsWord.calls t b w (by rw [word_f, h])
def cutB (s : ByteArray) : ByteArray := s.extract 0 (min s.size 2000)
theorem cut_f (s : ByteArray) : brazierlaw07_cut.f s = some (cutB s) := by
  unfold brazierlaw07_cut.f
  have h : mn (s.size : Int) 2000 = ((min s.size 2000 : Nat) : Int) := by unfold mn; omega
  rw [h, if_pos (by omega), if_pos (by omega), Int.toNat_natCast]
  rfl
theorem cut_calls (s : ByteArray) (w : World) : Calls Try.prog 10 #[.string s] w fun e w' => e = .returned (.string (cutB s)) ∧ Below w.heap.size w w' :=
  brazierlaw07_cut.calls s _ w (cut_f s)
theorem cut_size (s : ByteArray) : (cutB s).size ≤ 2000 := by
  unfold cutB
  rw [← slen, ext_list, List.length_take]
  omega
theorem eqA26 (d : Nat) (w : World) (x0 y0 : Int) (x1 y1 : Int) (x2 y2 : Int) :
    (Op.equalIn (d + 2) 26 (.agg #[.int .i64 x0, .int .i64 x1, .int .i64 x2]) (.agg #[.int .i64 y0, .int .i64 y1, .int .i64 y2])).run Try.prog w = .ok (x0 == y0 && (x1 == y1 && (x2 == y2))) w := by
  refine eqA_of Try.underlying26 (by kernel_rfl) ?_
  refine eqf_cons (by rfl) (by go_simp; rfl) (by go_simp; rfl) (by go_simp) ?_
  refine eqf_cons (by rfl) (by go_simp; rfl) (by go_simp; rfl) (by go_simp) ?_
  exact eqf_last (by rfl) (by go_simp; rfl) (by go_simp; rfl) (by go_simp)
theorem eq26 (w : World) (a b c : Int) : (Op.equalIn 10000 26 (.agg #[.int .i64 a, .int .i64 b, .int .i64 c]) (.agg #[.int .i64 a, .int .i64 b, .int .i64 c])).run Try.prog w = .ok true w := by
  have h := eqA26 9998 w a a b b c c
  rw [show (a == a && (b == b && (c == c))) = true from by simp] at h
  exact h
set_option maxHeartbeats 16000000 in
set_option maxRecDepth 100000 in
theorem names_calls (s : ByteArray) (off : Int) (w : World) (mx : Int) (hm : w.cell? ⟨0, 0, none⟩ = some (.int .i64 mx)) (hs : s.size ≤ 140737488351232) (ho : (Lit.int .i64 off).wf = true) :
    Calls Try.prog 7 #[.string s, .int .i64 off] w fun e w' => e = .returned (.bool true) ∧ Below w.heap.size w w' := by
  have hob : -9223372036854775808 ≤ off ∧ off ≤ 9223372036854775807 := by
    have h_ := ho
    simp [Lit.wf, IntKind.min, IntKind.max, IntKind.signed, IntKind.bits] at h_
    exact h_
  obtain ⟨t, ht⟩ : ∃ t, cutB s = t := ⟨_, rfl⟩
  have hts : t.size ≤ 1000000000 := by rw [← ht]; have := cut_size s; omega
  obtain ⟨n, hn⟩ : ∃ n : Nat, (n : Int) = max 0 (min off (t.size : Int)) := ⟨(max 0 (min off (t.size : Int))).toNat, by omega⟩
  obtain ⟨b, hb⟩ : ∃ b, nmB t.data.toList = b := ⟨_, rfl⟩
  obtain ⟨c, hc⟩ : ∃ c, decide (t.data.toList ∈ wordsL) = c := ⟨_, rfl⟩
  have HT := Aside0.mk ht
  have HN := Aside0.mk hn
  have HB := Aside0.mk hb
  have HC := Aside0.mk hc
  have HM := Aside0.mk hm
  have HO := Aside0.mk hob
  have keq := fun w => eq26 w (n : Int) (lnA t n) ((n : Int) - stA t n + 1)
  have kb : (b == b) = true := by cases b <;> rfl
  have kc : (c == c) = true := by cases c <;> rfl
  clear ht hn hb hc hm hob ho hs
  go_enter Try.func7, Try.ntmps7
  go_wp2_with (first
    | (go_at_call 10; (with_reducible refine (cut_calls s _).mono ?_); rw [HT.out]; rintro e w1 ⟨rfl, hb⟩; have HB1 := Aside0.mk hb; clear hb)
    | (go_at_call 16; (with_reducible refine (isname_calls t hts _ HB.out).mono ?_); rintro e w2 ⟨rfl, hd⟩; have HB2 := Aside0.mk (below_then HB1.out HB1.out.size hd.below); clear hd)
    | (go_at_call 17; (with_reducible refine (refname_calls t hts _ HB.out).mono ?_); rintro e w3 ⟨rfl, hb⟩; have HB3 := Aside0.mk (below_then HB2.out HB2.out.size hb); clear hb)
    | (go_at_call 18; (with_reducible refine (isword_calls t _ HC.out).mono ?_); rintro e w4 ⟨rfl, hd⟩; have HB4 := Aside0.mk (below_then HB3.out HB3.out.size hd.below); clear hd)
    | (go_at_call 19; (with_reducible refine (refword_calls t _ HC.out).mono ?_); rintro e w5 ⟨rfl, hb⟩; have HB5 := Aside0.mk (below_then HB4.out HB4.out.size hb); clear hb)
    | (go_at_call 20; (with_reducible refine (at_calls t off n _ hts HO.out HN.out).mono ?_); unfold plV; rintro e w6 ⟨rfl, hb⟩; have HB6 := Aside0.mk (below_then HB5.out HB5.out.size hb); clear hb)
    | (go_at_call 14; (with_reducible refine (refat_calls t off n _ hts HN.out).mono ?_); unfold plV; rintro e w7 ⟨rfl, hb⟩; have HB7 := Aside0.mk (below_then HB6.out HB6.out.size hb); clear hb)
    | (go_at_call 15; (with_reducible refine (lives_calls _ mx (MXb HM.out HB7.out)).mono ?_); rintro e w8 ⟨rfl, hb⟩; have HB8 := Aside0.mk (below_then HB7.out HB7.out.size hb); clear hb))
  go_ret
  exact ⟨rfl, HB8.out⟩

end Go.Proofs.Ytbmabnmidacpdaa.L
