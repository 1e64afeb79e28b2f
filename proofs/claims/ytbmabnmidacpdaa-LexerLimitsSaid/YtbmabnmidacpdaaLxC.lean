import Derived.Test.YtbmabnmidacpdaaProg
import Derived.Below
import Derived.Deep.Draws
import Derived.Deep.AppendLies
import Derived.Maps.AppendAt
import Derived.OwnWalk
import Derived.Laws.BytesArg
import Derived.Laws.MakeOwn
import Derived.Laws.OwnMore
import Derived.Deep.OwnRows
import Derived.Tactics
import Derived.Lib.ConvBytes
import Derived.Laws.Slices
import Derived.WalkKit
import Derived.KernelRfl
import Derived.RowKit3
import Derived.Deep.LoopGhost
import Derived.Deep.QuietTactic
import Derived.BigQuiet
import Derived.WideLaws
import Derived.Deep.DeepCutAuto
import Derived.Deep.CutBlock
import Derived.Deep.RegionHeld3
import Derived.Laws.Rows
import Derived.Lib.AppendStr
import Derived.ArgAppend
import Derived.Laws.IdiomCopy
import Derived.OrdersHeld
import Derived.Laws.BitsLemmas
import Derived.RowKit
import Derived.Test.YtbmabnmidacpdaaWWords
import Derived.Test.YtbmabnmidacpdaaWLast
import Derived.Test.YtbmabnmidacpdaaWTab
import Derived.Test.YtbmabnmidacpdaaWQPut
import Derived.Test.YtbmabnmidacpdaaWApart
import Derived.Test.YtbmabnmidacpdaaWArr
import Derived.Test.YtbmabnmidacpdaaWZeros
import Derived.Test.YtbmabnmidacpdaaWFoot
import Derived.Test.YtbmabnmidacpdaaWKept
import Derived.Test.YtbmabnmidacpdaaWShare
import Derived.Test.YtbmabnmidacpdaaWN
import Derived.Test.YtbmabnmidacpdaaWEqStruct
import Derived.Test.YtbmabnmidacpdaaWGuard
import Derived.Test.YtbmabnmidacpdaaWNEv
import Derived.Test.YtbmabnmidacpdaaWMore
import Derived.Test.YtbmabnmidacpdaaX1
import Derived.Test.YtbmabnmidacpdaaX2
import Derived.Test.YtbmabnmidacpdaaX3
import Derived.Test.YtbmabnmidacpdaaX4
import Derived.Test.YtbmabnmidacpdaaSh
import Derived.Test.YtbmabnmidacpdaaLxA
import Derived.Test.YtbmabnmidacpdaaLxB
import Derived.DataShut
import Derived.Deep.RegionLawGrows
import Derived.Deep.Upon
import Derived.Deep.MidRow
namespace Go.Proofs.Ytbmabnmidacpdaa.L
open Go.RowKit Go.Proofs.Ytbmabnmidacpdaa.X Go.Proofs.YtbmabnmidacpdaaW.PrintWords Go.Proofs.YtbmabnmidacpdaaW.PrintLast Go.Proofs.YtbmabnmidacpdaaW.PrintMore
attribute [local go_sem] max2_int min2_int max_two min_two max_three min_three max_four min_four   -- for this text's walks alone
set_option linter.unusedVariables false
set_option linter.unusedSimpArgs false
/-! Signs, words, numbers. -/
theorem bal_list (t : ByteArray) : t.toList = t.data.toList := ByteArray.toList_eq t
theorem ext02 (t : ByteArray) : (t.extract 0 2).toList = t.data.toList.take 2 := by
  rw [bal_list, ext_list]
theorem bt_head {t : ByteArray} {c : UInt8} {r : List UInt8} (h : t.data.toList = c :: r) : bt t 0 = (c.toNat : Int) := by
  have hl : 0 < t.data.toList.length := by rw [h]; simp
  have := bt_list t 0 hl
  rw [show ((0 : Nat) : Int) = 0 from rfl] at this
  rw [this]
  congr 2
  simp only [h, List.getElem_cons_zero]
set_option maxHeartbeats 1000000 in
theorem sign_j {t : ByteArray} {c : UInt8} {r : List UInt8} (h : t.data.toList = c :: r) : lexer_sign.j0 1 t = some (if ones.contains c then 1 else 0) := by
  have hs : (0 : Int) < (t.size : Int) := by
    have h1 := slen t
    rw [h] at h1
    simp at h1
    omega
  simp only [lexer_sign.j0]
  rw [if_pos hs, bt_head h]
  have e43 : ((c.toNat : Int) = 43) = (c = 43) := u8_int c 43 (by decide)
  have e45 : ((c.toNat : Int) = 45) = (c = 45) := u8_int c 45 (by decide)
  have e42 : ((c.toNat : Int) = 42) = (c = 42) := u8_int c 42 (by decide)
  have e47 : ((c.toNat : Int) = 47) = (c = 47) := u8_int c 47 (by decide)
  have e37 : ((c.toNat : Int) = 37) = (c = 37) := u8_int c 37 (by decide)
  have e38 : ((c.toNat : Int) = 38) = (c = 38) := u8_int c 38 (by decide)
  have e124 : ((c.toNat : Int) = 124) = (c = 124) := u8_int c 124 (by decide)
  have e94 : ((c.toNat : Int) = 94) = (c = 94) := u8_int c 94 (by decide)
  have e60 : ((c.toNat : Int) = 60) = (c = 60) := u8_int c 60 (by decide)
  have e62 : ((c.toNat : Int) = 62) = (c = 62) := u8_int c 62 (by decide)
  have e33 : ((c.toNat : Int) = 33) = (c = 33) := u8_int c 33 (by decide)
  have e126 : ((c.toNat : Int) = 126) = (c = 126) := u8_int c 126 (by decide)
  have e61 : ((c.toNat : Int) = 61) = (c = 61) := u8_int c 61 (by decide)
  have e40 : ((c.toNat : Int) = 40) = (c = 40) := u8_int c 40 (by decide)
  have e41 : ((c.toNat : Int) = 41) = (c = 41) := u8_int c 41 (by decide)
  have e123 : ((c.toNat : Int) = 123) = (c = 123) := u8_int c 123 (by decide)
  have e125 : ((c.toNat : Int) = 125) = (c = 125) := u8_int c 125 (by decide)
  have e91 : ((c.toNat : Int) = 91) = (c = 91) := u8_int c 91 (by decide)
  have e93 : ((c.toNat : Int) = 93) = (c = 93) := u8_int c 93 (by decide)
  have e44 : ((c.toNat : Int) = 44) = (c = 44) := u8_int c 44 (by decide)
  have e59 : ((c.toNat : Int) = 59) = (c = 59) := u8_int c 59 (by decide)
  by_cases hc : ones.contains c = true
  · rw [if_pos hc]
    have hm : c ∈ ones := by simpa using hc
    unfold ones at hm
    simp only [List.mem_cons, List.not_mem_nil, or_false] at hm
    rcases hm with rfl | rfl | rfl | rfl | rfl | rfl | rfl | rfl | rfl | rfl | rfl | rfl | rfl | rfl | rfl | rfl | rfl | rfl | rfl | rfl | rfl <;> rfl
  · rw [if_neg hc]
    have hm : ¬ c ∈ ones := by simpa using hc
    unfold ones at hm
    simp only [List.mem_cons, List.not_mem_nil, or_false, not_or] at hm
    obtain ⟨h1, h2, h3, h4, h5, h6, h7, h8, h9, h10, h11, h12, h13, h14, h15, h16, h17, h18, h19, h20, h21⟩ := hm
    rw [if_neg (fun e => h1 (Eq.mp e43 e)), if_neg (fun e => h2 (Eq.mp e45 e)), if_neg (fun e => h3 (Eq.mp e42 e)), if_neg (fun e => h4 (Eq.mp e47 e)), if_neg (fun e => h5 (Eq.mp e37 e)), if_neg (fun e => h6 (Eq.mp e38 e)), if_neg (fun e => h7 (Eq.mp e124 e)), if_neg (fun e => h8 (Eq.mp e94 e)), if_neg (fun e => h9 (Eq.mp e60 e)), if_neg (fun e => h10 (Eq.mp e62 e)), if_neg (fun e => h11 (Eq.mp e33 e)), if_neg (fun e => h12 (Eq.mp e126 e)), if_neg (fun e => h13 (Eq.mp e61 e)), if_neg (fun e => h14 (Eq.mp e40 e)), if_neg (fun e => h15 (Eq.mp e41 e)), if_neg (fun e => h16 (Eq.mp e123 e)), if_neg (fun e => h17 (Eq.mp e125 e)), if_neg (fun e => h18 (Eq.mp e91 e)), if_neg (fun e => h19 (Eq.mp e93 e)), if_neg (fun e => h20 (Eq.mp e44 e)), if_neg (fun e => h21 (Eq.mp e59 e))]
theorem sign_f {t : ByteArray} {c : UInt8} {r : List UInt8} (h : t.data.toList = c :: r) : lexer_sign.f 1 t = some (signL (c :: r) : Int) := by
  have hs : ((c :: r).length : Int) = (t.size : Int) := by rw [← slen t, h]
  have hj := sign_j h
  unfold lexer_sign.f signL
  rw [hj, ext02, h]
  show _ = some ((if (c :: r).take 2 ∈ twos then 2 else if ones.contains c = true then 1 else 0 : Nat) : Int)
  by_cases h2 : (t.size : Int) ≥ 2
  · rw [if_pos h2, if_pos (by decide), if_pos h2]
    generalize (c :: r).take 2 = p
    by_cases hp : p ∈ twos
    · rw [if_pos hp]
      unfold twos at hp
      simp only [List.mem_cons, List.not_mem_nil, or_false] at hp
      rcases hp with rfl | rfl | rfl | rfl | rfl | rfl | rfl | rfl <;> rfl
    · rw [if_neg hp]
      unfold twos at hp
      simp only [List.mem_cons, List.not_mem_nil, or_false, not_or] at hp
      obtain ⟨h1, h2, h3, h4, h5, h6, h7, h8⟩ := hp
      rw [if_neg h1, if_neg h2, if_neg h3, if_neg h4, if_neg h5, if_neg h6, if_neg h7, if_neg h8]
      split <;> rfl
  · have hn : ¬ (c :: r).take 2 ∈ twos := fun hp => by have := take_sign hp; omega
    rw [if_neg h2, if_neg hn]
    split <;> rfl
theorem word_f (t : ByteArray) : lexer_IsWord.f t = some (decide (t.data.toList ∈ wordsL)) := by
  unfold lexer_IsWord.f
  rw [bal_list]
  generalize t.data.toList = p
  by_cases hp : p ∈ wordsL
  · rw [decide_eq_true hp]
    unfold wordsL at hp
    simp only [List.mem_cons, List.not_mem_nil, or_false] at hp
    rcases hp with rfl | rfl | rfl | rfl | rfl | rfl | rfl | rfl | rfl <;> rfl
  · rw [decide_eq_false hp]
    unfold wordsL at hp
    simp only [List.mem_cons, List.not_mem_nil, or_false, not_or] at hp
    obtain ⟨h1, h2, h3, h4, h5, h6, h7, h8, h9⟩ := hp
    rw [if_neg h1, if_neg h2, if_neg h3, if_neg h4, if_neg h5, if_neg h6, if_neg h7, if_neg h8, if_neg h9]
def numG (acc : Int) (l : List UInt8) : Int := l.foldl (fun n c => 10 * n + ((c.toNat : Int) - 48)) acc
theorem dig_bd {c : UInt8} (h : dig c = true) : 48 ≤ (c.toNat : Int) ∧ (c.toNat : Int) ≤ 57 := by
  unfold dig at h
  simp at h
  omega
theorem w64 (x : Int) (h0 : 0 ≤ x) (h1 : x ≤ 1000000000000) : wrap64 x = x := by
  have h := wrap64_nat x.toNat (by omega)
  rw [show ((x.toNat : Nat) : Int) = x from by omega] at h
  exact h
theorem num_l (t : ByteArray) (hs : t.size ≤ 10) : ∀ (m j : Nat) (acc : Int), j + m = t.size → 0 ≤ acc → acc < 10 ^ j →
    lexer_number.l0 (m + 1) t acc (t.size : Int) (j : Int) = if (rst t j).all dig then some (wrap32 (numG acc (rst t j)), decide (numG acc (rst t j) < 2147483648)) else some (0, false) := by
  intro m
  induction m with
  | zero =>
    intro j acc h1 h2 h3
    have hr : rst t j = [] := by unfold rst; rw [List.drop_eq_nil_iff, slen]; omega
    unfold lexer_number.l0
    rw [if_neg (by omega), hr]
    rfl
  | succ m ih =>
    intro j acc h1 h2 h3
    obtain ⟨c, r, hcr, hbt⟩ := rst_cons t j (by omega)
    have hr : rst t (j + 1) = r := by
      have h4 : rst t (j + 1) = (rst t j).drop 1 := by unfold rst; rw [List.drop_drop]
      rw [h4, hcr]; rfl
    have hp : (10 : Int) ^ j ≤ 10 ^ 10 := by
      have hj : j ≤ 10 := by omega
      have h5 : (10 : Nat) ^ j ≤ 10 ^ 10 := Nat.pow_le_pow_right (by decide) hj
      have h6 : ((10 ^ j : Nat) : Int) ≤ ((10 ^ 10 : Nat) : Int) := Int.ofNat_le.2 h5
      simpa using h6
    have hpe : (10 : Int) ^ (j + 1) = 10 * 10 ^ j := by rw [Int.pow_succ]; omega
    generalize hP : (10 : Int) ^ j = P at h3 hp hpe
    unfold lexer_number.l0
    rw [if_pos (by omega), if_pos (by omega), if_pos (by omega), ← hbt, isDigit_f]
    show (if dig c = true then _ else _) = _
    by_cases hd : dig c = true
    · have hb := dig_bd hd
      have hp2 : P ≤ 10000000000 := hp
      have e1 : wrap64 (wrap64 (10 * acc) + ((c.toNat : Int) - 48) % 256) = 10 * acc + ((c.toNat : Int) - 48) := by
        rw [w64 (10 * acc) (by omega) (by omega), Int.emod_eq_of_lt (by omega) (by omega), w64 _ (by omega) (by omega)]
      have e2 : wrap64 ((j : Int) + 1) = ((j + 1 : Nat) : Int) := by rw [w64 _ (by omega) (by omega)]; rfl
      rw [if_pos hd, e1, e2, ih (j + 1) (10 * acc + ((c.toNat : Int) - 48)) (by omega) (by omega) (by rw [hpe]; omega), hr, hcr]
      simp only [List.all_cons, hd, Bool.true_and]
      rfl
    · have ha : (c :: r).all dig = false := by simp [hd]
      rw [if_neg hd, hcr, if_neg (by rw [ha]; decide)]
theorem numG_nn (l : List UInt8) : ∀ (acc : Int), 0 ≤ acc → l.all dig = true → 0 ≤ numG acc l := by
  induction l with
  | nil => intro acc h _; exact h
  | cons c l ih =>
    intro acc h ha
    simp only [List.all_cons, Bool.and_eq_true] at ha
    have hb := dig_bd ha.1
    exact ih (10 * acc + ((c.toNat : Int) - 48)) (by omega) ha.2
theorem number_f (t : ByteArray) : ∃ v, lexer_number.f (t.size + 2) t = some (v, (numL t.data.toList).isSome) ∧ ∀ u, numL t.data.toList = some u → v = u := by
  have hl := slen t
  have h0 : rst t 0 = t.data.toList := rfl
  have hj : ∀ b : Bool, lexer_number.j0 (t.size + 2) t b = if b = true then some (0, false) else lexer_number.l0 (t.size + 1) t 0 (t.size : Int) 0 := fun b => by
    conv => lhs; unfold lexer_number.j0
  have hlen : t.data.toList.length = t.size := slen t
  unfold lexer_number.f
  by_cases h10 : (t.size : Int) > 10
  · have hn : numL t.data.toList = none := by
      unfold numL
      rw [if_neg (by omega)]
    rw [if_pos h10, hj true, if_pos rfl, hn]
    exact ⟨0, rfl, fun u hu => by cases hu⟩
  · rw [if_neg h10]
    by_cases hz : 1 < t.size ∧ t.data.toList.head? = some 48
    · obtain ⟨h1, hh⟩ := hz
      obtain ⟨c, r, hcr, hbt⟩ := rst_cons t 0 (by omega)
      rw [h0] at hcr
      have hn : numL t.data.toList = none := by
        unfold numL
        rw [if_neg]
        rintro ⟨_, h2 | h2, _⟩
        · omega
        · exact h2 hh
      have hc : c = 48 := by rw [hcr] at hh; exact Option.some.inj hh
      have hb : bt t 0 = 48 := by rw [bt_head hcr, hc]; rfl
      rw [if_pos (by omega), if_pos (by omega), hb, hj, hn]
      exact ⟨0, rfl, fun u hu => by cases hu⟩
    · have e : (if (t.size : Int) > 1 then (if 0 < (t.size : Int) then (lexer_number.j0 (t.size + 2) t ((bt t 0) == 48)) else (none)) else (lexer_number.j0 (t.size + 2) t false)) = lexer_number.l0 (t.size + 1) t 0 (t.size : Int) 0 := by
        by_cases h1 : (t.size : Int) > 1
        · rw [if_pos h1, if_pos (by omega)]
          obtain ⟨c, r, hcr, hbt⟩ := rst_cons t 0 (by omega)
          rw [h0] at hcr
          have hb : (bt t 0 == 48) = false := by
            rw [beq_eq_false_iff_ne, bt_head hcr]
            intro hc
            refine hz ⟨by omega, ?_⟩
            rw [hcr]
            exact congrArg some ((u8_int c 48 (by decide)).mp hc)
          rw [hb, hj]
          rfl
        · rw [if_neg h1, hj]
          rfl
      rw [e]
      have hl0 := num_l t (by omega) t.size 0 0 (by omega) (by omega) (by decide)
      rw [h0] at hl0
      rw [show ((0 : Nat) : Int) = 0 from rfl] at hl0
      rw [hl0]
      have hV : numG 0 t.data.toList = numV t.data.toList := rfl
      rw [hV]
      have hz2 : t.data.toList.length ≤ 1 ∨ t.data.toList.head? ≠ some 48 := by
        by_cases h1 : 1 < t.size
        · exact .inr fun h2 => hz ⟨h1, h2⟩
        · exact .inl (by omega)
      by_cases ha : t.data.toList.all dig = true
      · rw [if_pos ha]
        have hnn := numG_nn t.data.toList 0 (by omega) ha
        rw [hV] at hnn
        by_cases hv : numV t.data.toList < 2147483648
        · have hn : numL t.data.toList = some (numV t.data.toList) := by
            unfold numL
            rw [if_pos ⟨by omega, hz2, ha, hv⟩]
          rw [hn, decide_eq_true hv]
          refine ⟨_, rfl, fun u hu => ?_⟩
          rw [← Option.some.inj hu]
          unfold wrap32
          omega
        · have hn : numL t.data.toList = none := by
            unfold numL
            rw [if_neg]
            rintro ⟨_, _, _, h2⟩
            exact hv h2
          rw [hn, decide_eq_false hv]
          exact ⟨_, rfl, fun u hu => by cases hu⟩
      · have hn : numL t.data.toList = none := by
          unfold numL
          rw [if_neg]
          rintro ⟨_, _, h2, _⟩
          exact ha h2
        rw [if_neg ha, hn]
        exact ⟨_, rfl, fun u hu => by cases hu⟩
set_option maxHeartbeats 4000000 in
set_option maxRecDepth 100000 in
theorem placeat_calls (s : ByteArray) (n : Nat) (w : World) (hs : s.size ≤ 1000000000) (hn : n ≤ s.size) :
    Calls Try.prog 43 #[.agg #[.int .i64 (n : Int), .int .i64 (lnA s n), .int .i64 (stA s n)]] w fun e w' => e = .returned (plV s n) ∧ Below w.heap.size w w' := by
  have hl := lnA_bd s n
  have hst := stA_bd s n
  have hn2 : (n : Int) ≤ 1000000000 := by omega
  have I26 : Aside0 ((Try.prog.info? 26).map (·.size) = some 3) := ⟨by kernel_rfl⟩
  go_enter Try.func43, Try.ntmps43
  go_wp2
  have hb := blk_new (w.alloc (.cells #[.int .i64 (n : Int), .int .i64 (lnA s n), .int .i64 (stA s n)] 48)) (.cells #[.int .i64 (n : Int), .int .i64 (lnA s n), .int .i64 ((n : Int) - stA s n + 1)] 26)
  rw [show (w.alloc (.cells #[.int .i64 (n : Int), .int .i64 (lnA s n), .int .i64 (stA s n)] 48)).heap.size = w.heap.size + 1 from by simp] at hb
  exact bodyPost_ret (results_cell_row rfl _ _ (w.heap.size + 1) 26 #[.int .i64 (n : Int), .int .i64 (lnA s n), .int .i64 ((n : Int) - stA s n + 1)] (0, 0) _ rfl hb Try.underlying26 rfl I26.out) rfl ⟨rfl, below_alloc (below_alloc (Below.refl _ _) _) _⟩

end Go.Proofs.Ytbmabnmidacpdaa.L
