/- Texts of this seat that a claim bears, put together by this session's own program shake.py: TrZa, TrZb, TrZc. -/
import Derived.Test.YtabkinlpbefjgaaKd11
import Derived.Test.YtabkinlpbefjgaaKd12
import Derived.Test.YtabkinlpbefjgaaKd13
import Derived.Test.YtabkinlpbefjgaaKd14
namespace Go.Proofs.Ytabkinlpbefjgaa.L
open Go.RowKit Go.Proofs.Ytabkinlpbefjgaa.X Go.Proofs.YtabkinlpbefjgaaW.PrintWords Go.Proofs.YtabkinlpbefjgaaW.PrintLast Go.Proofs.YtabkinlpbefjgaaW.PrintMore
attribute [local go_sem] max2_int min2_int max_two min_two max_three min_three max_four min_four   -- for this text's walks alone
set_option linter.unusedVariables false
set_option linter.unusedSimpArgs false
open Go.Proofs.Ytabkinlpbefjgaa.Pure
def Tot (f : Nat → Option Bool) (P : Prop) : Prop := ∃ r, Ev f r ∧ (r = true → P)
theorem Tot.step {f : Nat → Option Bool} {P : Prop} (h : Tot (fun k => f (k + 1)) P) : Tot f P := by
  obtain ⟨r, h1, h2⟩ := h
  exact ⟨r, Ev.step (fun _ => rfl) h1, h2⟩
theorem Tot.ite {c : Prop} [Decidable c] {f g : Nat → Option Bool} {P : Prop} (h1 : c → Tot f P) (h2 : ¬ c → Tot g P) : Tot (fun k => if c then f k else g k) P := by
  by_cases h : c
  · simp only [if_pos h]; exact h1 h
  · simp only [if_neg h]; exact h2 h
theorem Tot.bind {α : Type} {g : Nat → Option α} {f : α → Nat → Option Bool} {a : α} {P : Prop} (h : Ev g a) (k : Tot (f a) P) : Tot (fun n => (g n).bind fun t => f t n) P := by
  obtain ⟨r, h1, h2⟩ := k
  exact ⟨r, Ev.bind h h1, h2⟩
theorem Tot.bindB {g : Nat → Option Bool} {f : Bool → Nat → Option Bool} {P Q : Prop} (h : Tot g Q) (k1 : Q → Tot (f true) P) (k2 : Tot (f false) P) : Tot (fun n => (g n).bind fun t => f t n) P := by
  obtain ⟨b, hb, hq⟩ := h
  cases b with
  | true => exact Tot.bind hb (k1 (hq rfl))
  | false => exact Tot.bind hb k2
theorem Tot.no (P : Prop) : Tot (fun _ => some false) P := ⟨false, Ev.now _, fun h => by cases h⟩
theorem Tot.yes {P : Prop} (h : P) : Tot (fun _ => some true) P := ⟨true, Ev.now _, fun _ => h⟩
theorem Tot.imp {f : Nat → Option Bool} {P Q : Prop} (h : Tot f P) (k : P → Q) : Tot f Q := by
  obtain ⟨r, h1, h2⟩ := h
  exact ⟨r, h1, fun e => k (h2 e)⟩
theorem Tot.of {f : Nat → Option Bool} {P : Prop} {b : Bool} (h : ∀ k, f k = some b) (hp : b = true → P) : Tot f P := ⟨b, ⟨0, fun k _ => h k⟩, hp⟩
theorem wr1 (i : Nat) (h : i ≤ 9000000000000000000) : wrap64 ((i : Int) + 1) = ((i + 1 : Nat) : Int) := by rw [w64 (by omega) (by omega)]; omega
theorem digit_tot (a : Int) : ∃ b, brazierref07_digit.f a = some b := by unfold brazierref07_digit.f; split <;> exact ⟨_, rfl⟩
theorem letter_tot (a : Int) : ∃ b, brazierref07_letter.f a = some b := by
  unfold brazierref07_letter.f
  repeat' split
  all_goals exact ⟨_, rfl⟩
theorem word_l (a : ByteArray) (ws : List ByteArray) (hw : ws.length ≤ 1000) : ∀ (d i : Nat), i + d = ws.length → Tot (fun k => brazierref07_IsWord.l0 k a ws (ws.length : Int) (i : Int)) True
  | 0, i, h => by
    refine Tot.step ?_
    simp only [brazierref07_IsWord.l0]
    exact Tot.ite (fun h1 => absurd h1 (by omega)) (fun _ => Tot.no _)
  | d + 1, i, h => by
    refine Tot.step ?_
    simp only [brazierref07_IsWord.l0]
    refine Tot.ite (fun h1 => Tot.ite (fun h2 => Tot.ite (fun h3 => Tot.ite (fun _ => Tot.yes trivial) (fun _ => ?_)) (fun h3 => absurd h1 h3)) (fun h2 => absurd h2 (by omega))) (fun h1 => absurd h1 (by omega))
    rw [wr1 i (by omega)]
    exact word_l a ws hw d (i + 1) (by omega)
theorem isword_tot (a : ByteArray) : Tot (fun k => brazierref07_IsWord.f k a) True := by
  unfold brazierref07_IsWord.f brazierref07_Words.f
  simp only [Option.bind_some]
  exact word_l a _ (by decide) _ 0 (Nat.zero_add _)
theorem name_l (a : ByteArray) (hs : a.size ≤ 64) : ∀ (d i : Nat), i + d = a.size → Tot (fun k => brazierref07_IsName.l0 k a (i : Int)) True
  | 0, i, h => by
    refine Tot.step ?_
    simp only [brazierref07_IsName.l0]
    exact Tot.ite (fun h1 => absurd h1 (by omega)) (fun _ => Tot.yes trivial)
  | d + 1, i, h => by
    refine Tot.step ?_
    simp only [brazierref07_IsName.l0]
    refine Tot.ite (fun h1 => Tot.ite (fun h2 => ?_) (fun h2 => absurd h2 (by omega))) (fun h1 => absurd h1 (by omega))
    obtain ⟨b, hb⟩ := letter_tot (bt a (i : Int))
    obtain ⟨b2, hb2⟩ := digit_tot (bt a (i : Int))
    rw [wr1 i (by omega)]
    simp only [hb, hb2, Option.bind_some]
    have ih := name_l a hs d (i + 1) (by omega)
    exact Tot.ite (fun _ => ih) (fun _ => Tot.ite (fun _ => ih) (fun _ => Tot.no _))
theorem name_j (a : ByteArray) (b : Bool) (hs : b = false → a.size ≤ 64) : Tot (fun k => brazierref07_IsName.j0 k a b) (b = false) := by
  refine Tot.step ?_
  simp only [brazierref07_IsName.j0]
  refine Tot.ite (fun _ => Tot.no _) (fun h => ?_)
  have hb : b = false := by simpa using h
  exact (name_l a (hs hb) a.size 0 (Nat.zero_add _)).imp (fun _ => hb)
theorem isname_tot (a : ByteArray) : Tot (fun k => brazierref07_IsName.f k a) (a.size ≤ 64) := by
  unfold brazierref07_IsName.f
  refine Tot.ite (fun h => (name_j a true (by simp)).imp (by simp)) (fun h0 => Tot.ite (fun h => (name_j a true (by simp)).imp (by simp)) (fun h1 => Tot.ite (fun h2 => ?_) (fun h2 => absurd h2 (by omega))))
  obtain ⟨b, hb⟩ := digit_tot (bt a 0)
  simp only [hb, Option.bind_some]
  refine Tot.ite (fun _ => (name_j a true (by simp)).imp (by simp)) (fun _ => ?_)
  refine Tot.bindB (isword_tot a) (fun _ => (name_j a true (by simp)).imp (by simp)) ((name_j a false (fun _ => by omega)).imp (fun _ => by omega))
def posOf (n len : Nat) : Int := if n < len then (n : Int) else -1
theorem rd57 (GS : List S57) (i : Nat) : rd_T57 GS (i : Int) = GS.getD i z57 := by show GS.getD ((i : Int)).toNat z57 = _; rw [Int.toNat_natCast]
theorem rd47 (F : List S47) (i : Nat) : rd_T47 F (i : Int) = fnOf F i := by show F.getD ((i : Int)).toNat z47 = _; rw [Int.toNat_natCast]; rfl
theorem fnAt_l (F : List S47) (n : ByteArray) (hl : F.length ≤ 1000000) : ∀ (d i : Nat), i + d = F.length → (∀ j, j < i → ¬ (fnOf F j).f0.toList = n.toList) → Ev (fun k => brazierref12_FnAt.l0 k n F (F.length : Int) (i : Int)) (posOf (fnAt F n) F.length)
  | 0, i, h, hn => by
    refine Ev.step (f := fun _ => some (-1)) (fun k => ?_) ?_
    · simp only [brazierref12_FnAt.l0]; rw [if_neg (by omega)]
    · have e : fnAt F n = F.length := by
        unfold fnAt
        refine List.findIdx_eq_length.2 (fun f hf => ?_)
        obtain ⟨j, hj⟩ := List.getElem?_of_mem hf
        have hj2 := (List.getElem?_eq_some_iff.1 hj).1
        have h2 := hn j (by omega)
        unfold fnOf at h2
        rw [List.getD_eq_getElem?_getD, hj] at h2
        simpa using h2
      rw [e]; unfold posOf; rw [if_neg (by omega)]; exact Ev.now _
  | d + 1, i, h, hn => by
    have hi : i < F.length := by omega
    by_cases hm : (fnOf F i).f0.toList = n.toList
    · refine Ev.step (f := fun _ => some (i : Int)) (fun k => ?_) ?_
      · simp only [brazierref12_FnAt.l0]
        rw [if_pos (by omega), if_pos (by omega), if_pos (by omega), rd47, if_pos hm]
      · have e : fnAt F n = i := by
          unfold fnAt
          rw [List.findIdx_eq hi]
          refine ⟨?_, fun j hj => ?_⟩
          · unfold fnOf at hm
            rw [List.getD_eq_getElem?_getD, List.getElem?_eq_getElem hi] at hm
            simpa using hm
          · have h2 := hn j hj
            unfold fnOf at h2
            rw [List.getD_eq_getElem?_getD, List.getElem?_eq_getElem (by omega)] at h2
            simpa using h2
        rw [e]; unfold posOf; rw [if_pos hi]; exact Ev.now _
    · refine Ev.step (f := fun k => brazierref12_FnAt.l0 k n F (F.length : Int) ((i + 1 : Nat) : Int)) (fun k => ?_) (fnAt_l F n hl d (i + 1) (by omega) (fun j hj => ?_))
      · simp only [brazierref12_FnAt.l0]
        rw [if_pos (by omega), if_pos (by omega), if_pos (by omega), rd47, if_neg hm, wr1 i (by omega)]
      · by_cases e : j = i
        · rw [e]; exact hm
        · exact hn j (by omega)
theorem fnAt_ev (GS : List S57) (F : List S47) (n : ByteArray) (hl : F.length ≤ 1000000) : Ev (fun k => brazierref12_FnAt.f k GS F n) (posOf (fnAt F n) F.length) := fnAt_l F n hl F.length 0 (Nat.zero_add _) (fun j hj => absurd hj (by omega))
theorem glAt_l (F : List S57) (n : ByteArray) (hl : F.length ≤ 1000000) : ∀ (d i : Nat), i + d = F.length → (∀ j, j < i → ¬ (F.getD j z57).f0.toList = n.toList) → Ev (fun k => brazierref12_GlobalAt.l0 k n F (F.length : Int) (i : Int)) (posOf (glAt F n) F.length)
  | 0, i, h, hn => by
    refine Ev.step (f := fun _ => some (-1)) (fun k => ?_) ?_
    · simp only [brazierref12_GlobalAt.l0]; rw [if_neg (by omega)]
    · have e : glAt F n = F.length := by
        unfold glAt
        refine List.findIdx_eq_length.2 (fun f hf => ?_)
        obtain ⟨j, hj⟩ := List.getElem?_of_mem hf
        have hj2 := (List.getElem?_eq_some_iff.1 hj).1
        have h2 := hn j (by omega)
        rw [List.getD_eq_getElem?_getD, hj] at h2
        simpa using h2
      rw [e]; unfold posOf; rw [if_neg (by omega)]; exact Ev.now _
  | d + 1, i, h, hn => by
    have hi : i < F.length := by omega
    by_cases hm : (F.getD i z57).f0.toList = n.toList
    · refine Ev.step (f := fun _ => some (i : Int)) (fun k => ?_) ?_
      · simp only [brazierref12_GlobalAt.l0]
        rw [if_pos (by omega), if_pos (by omega), if_pos (by omega), rd57, if_pos hm]
      · have e : glAt F n = i := by
          unfold glAt
          rw [List.findIdx_eq hi]
          refine ⟨?_, fun j hj => ?_⟩
          · rw [List.getD_eq_getElem?_getD, List.getElem?_eq_getElem hi] at hm
            simpa using hm
          · have h2 := hn j hj
            rw [List.getD_eq_getElem?_getD, List.getElem?_eq_getElem (by omega)] at h2
            simpa using h2
        rw [e]; unfold posOf; rw [if_pos hi]; exact Ev.now _
    · refine Ev.step (f := fun k => brazierref12_GlobalAt.l0 k n F (F.length : Int) ((i + 1 : Nat) : Int)) (fun k => ?_) (glAt_l F n hl d (i + 1) (by omega) (fun j hj => ?_))
      · simp only [brazierref12_GlobalAt.l0]
        rw [if_pos (by omega), if_pos (by omega), if_pos (by omega), rd57, if_neg hm, wr1 i (by omega)]
      · by_cases e : j = i
        · rw [e]; exact hm
        · exact hn j (by omega)
theorem glAt_ev (GS : List S57) (F : List S47) (n : ByteArray) (hl : GS.length ≤ 1000000) : Ev (fun k => brazierref12_GlobalAt.f k GS F n) (posOf (glAt GS n) GS.length) := glAt_l GS n hl GS.length 0 (Nat.zero_add _) (fun j hj => absurd hj (by omega))
end Go.Proofs.Ytabkinlpbefjgaa.L

namespace Go.Proofs.Ytabkinlpbefjgaa.L
open Go.RowKit Go.Proofs.Ytabkinlpbefjgaa.X Go.Proofs.YtabkinlpbefjgaaW.PrintWords Go.Proofs.YtabkinlpbefjgaaW.PrintLast Go.Proofs.YtabkinlpbefjgaaW.PrintMore
attribute [local go_sem] max2_int min2_int max_two min_two max_three min_three max_four min_four   -- for this text's walks alone
set_option linter.unusedVariables false
set_option linter.unusedSimpArgs false
open Go.Proofs.Ytabkinlpbefjgaa.Pure
def regB (a n : Int) (b : Bool) : Bool := decide (0 ≤ a ∧ a < n ∨ b = true ∧ a = -1)
theorem regB_yes {a n : Int} {b : Bool} (h : regB a n b = true) : 0 ≤ a ∧ a < n ∨ b = true ∧ a = -1 := of_decide_eq_true h
set_option maxHeartbeats 1000000 in
theorem reg_calls (a n : Int) (b : Bool) (w : World) : Calls Try.prog 34 #[.int .i64 a, .int .i64 n, .bool b] w fun e w' => e = .returned (.bool (regB a n b)) ∧ w = w' := by
  by_cases h1 : 0 ≤ a
  · by_cases h2 : a < n
    · have e : regB a n b = true := decide_eq_true (.inl ⟨h1, h2⟩)
      rw [e]
      clear e
      go_enter Try.func34, Try.ntmps34
      go_wp2
      go_ret
      exact ⟨rfl, rfl⟩
    · cases b
      · have e : regB a n false = false := decide_eq_false (by rintro (h | h); exact h2 h.2; exact absurd h.1 (by decide))
        rw [e]
        clear e
        go_enter Try.func34, Try.ntmps34
        go_wp2
        go_ret
        exact ⟨rfl, rfl⟩
      · have e : regB a n true = false := decide_eq_false (by rintro (h | h); exact h2 h.2; have := h.2; omega)
        rw [e]
        clear e
        have q : (a == -1) = false := by rw [beq_eq_false_iff_ne]; omega
        go_enter Try.func34, Try.ntmps34
        go_wp2
        go_ret
        exact ⟨rfl, rfl⟩
  · cases b
    · have e : regB a n false = false := decide_eq_false (by rintro (h | h); exact h1 h.1; exact absurd h.1 (by decide))
      rw [e]
      clear e
      go_enter Try.func34, Try.ntmps34
      go_wp2
      go_ret
      exact ⟨rfl, rfl⟩
    · by_cases h3 : a = -1
      · subst h3
        have e : regB (-1) n true = true := decide_eq_true (.inr ⟨rfl, rfl⟩)
        rw [e]
        clear e
        go_enter Try.func34, Try.ntmps34
        go_wp2
        go_ret
        exact ⟨rfl, rfl⟩
      · have e : regB a n true = false := decide_eq_false (by rintro (h | h); exact h1 h.1; exact h3 h.2)
        rw [e]
        clear e
        have q : (a == -1) = false := by rw [beq_eq_false_iff_ne]; exact h3
        go_enter Try.func34, Try.ntmps34
        go_wp2
        go_ret
        exact ⟨rfl, rfl⟩
def Says (P : Prop) (w : World) (e : Ending) (w' : World) : Prop := ∃ b : Bool, e = .returned (.bool b) ∧ (b = true → P) ∧ Below w.heap.size w w'
theorem Says.no {P : Prop} {w w' : World} (h : Below w.heap.size w w') : Says P w (.returned (.bool false)) w' := ⟨false, rfl, (fun h => by cases h), h⟩
theorem isname_calls (s : ByteArray) (w : World) : Calls Try.prog 19 #[.string s] w (Says (s.size ≤ 64) w) := by
  obtain ⟨r, hr, hp⟩ := isname_tot s
  obtain ⟨k, hk⟩ := hr.rounds
  exact (brazierref07_IsName.calls k s r w hk).mono fun e w' h => ⟨r, h.1, hp, h.2⟩
theorem fnat_calls (AG : Option Addr) (cG : Nat) (GS : List S57) (AF : Option Addr) (cF : Nat) (F : List S47) (n : ByteArray) (w : World) (hG : Kd.C k57 w AG GS.length GS) (hcG : GS.length ≤ cG) (hF : Kd.C k47 w AF F.length F) (hcF : F.length ≤ cF) (hl : F.length ≤ 1000000) :
    Calls Try.prog 21 #[.agg #[.slice AG GS.length cG, .slice AF F.length cF], .string n] w fun e w' => e = .returned (.int .i64 (posOf (fnAt F n) F.length)) ∧ Below w.heap.size w w' := by
  obtain ⟨k, hk⟩ := (fnAt_ev GS F n hl).rounds
  exact brazierref12_FnAt.calls k AG cG GS AF cF F n _ w hG hcG hF hcF hk
theorem glat_calls (AG : Option Addr) (cG : Nat) (GS : List S57) (AF : Option Addr) (cF : Nat) (F : List S47) (n : ByteArray) (w : World) (hG : Kd.C k57 w AG GS.length GS) (hcG : GS.length ≤ cG) (hF : Kd.C k47 w AF F.length F) (hcF : F.length ≤ cF) (hl : GS.length ≤ 1000000) :
    Calls Try.prog 20 #[.agg #[.slice AG GS.length cG, .slice AF F.length cF], .string n] w fun e w' => e = .returned (.int .i64 (posOf (glAt GS n) GS.length)) ∧ Below w.heap.size w w' := by
  obtain ⟨k, hk⟩ := (glAt_ev GS F n hl).rounds
  exact brazierref12_GlobalAt.calls k AG cG GS AF cF F n _ w hG hcG hF hcF hk
structure MayI (n : Int) (x : S44) : Prop where
  kind : 1 ≤ x.f0 ∧ x.f0 ≤ 9
  dst : x.f0 ≠ 6 → x.f0 ≠ 9 → 0 ≤ x.f2 ∧ x.f2 < n ∨ x.f0 = 7 ∧ x.f2 = -1
  a : x.f0 = 2 ∨ x.f0 = 3 ∨ x.f0 = 4 ∨ x.f0 = 9 → 0 ≤ x.f3 ∧ x.f3 < n
  mem : x.f0 = 5 ∨ x.f0 = 6 → 0 ≤ x.f3 ∧ x.f3 < n ∨ x.f3 = -1
  b : x.f0 = 4 ∨ x.f0 = 6 → 0 ≤ x.f4 ∧ x.f4 < n
  args : x.f7.length ≤ 8 ∧ ∀ i ∈ x.f7, 0 ≤ i ∧ i < n
def XI (k op D A B num : Int) (nm : ByteArray) (args : List Int) : S44 := ⟨k, op, D, A, B, num, nm, args⟩
set_option maxHeartbeats 4000000 in
set_option maxRecDepth 100000 in
theorem mayins_1 (op D A B num : Int) (nm : ByteArray) (A7 : Option Addr) (c7 : Nat) (args : List Int) (n : Int) (w : World) (h7 : (Kd.int .i64).C w A7 args.length args) (hc7 : args.length ≤ c7) :
    Calls Try.prog 33 #[.agg #[.int .i64 1, .int .i64 op, .int .i64 D, .int .i64 A, .int .i64 B, .int .i32 num, .string nm, .slice A7 args.length c7], .int .i64 n] w (Says (MayI n (XI 1 op D A B num nm args)) w) := by
  have H7 := Aside0.mk h7
  have HC7 := Aside0.mk hc7
  have HM7 := Aside0.mk (Kd.C_max h7)
  clear h7 hc7
  go_enter Try.func33, Try.ntmps33
  go_wp2_with (first
    | (go_at_call 34; (with_reducible refine (reg_calls _ _ _ _).mono ?_); rintro e w' ⟨rfl, rfl⟩)
    | fail)
  all_goals first
    | (go_ret; refine Says.no ?_; exact Below.alloc (Below.refl _ _) (Nat.le_refl _) _)
    | skip
  have HD : Aside0 (regB D n false = true) := ⟨by assumption⟩
  have HLE : Aside0 (args.length ≤ 8) := ⟨by omega⟩
  have hcl : Below w.heap.size w (w.alloc (.cells #[.int .i64 1, .int .i64 op, .int .i64 D, .int .i64 A, .int .i64 B, .int .i32 num, .string nm, .slice A7 args.length c7] 44)) := Below.alloc (Below.refl _ _) (Nat.le_refl _) _
  generalize w.alloc (.cells #[.int .i64 1, .int .i64 op, .int .i64 D, .int .i64 A, .int .i64 B, .int .i32 num, .string nm, .slice A7 args.length c7] 44) = w2 at hcl ⊢
  have HBL := Aside0.mk hcl
  have HMY : Aside0 ((∀ i ∈ args, 0 ≤ i ∧ i < n) → MayI n (XI 1 op D A B num nm args)) := ⟨fun hall => ⟨⟨by show (1 : Int) ≤ 1; decide, by show (1 : Int) ≤ 9; decide⟩, fun _ _ => by have := regB_yes HD.out; rcases this with h | h; exact .inl h; exact absurd h.1 (by decide), fun h => by rcases h with h | h | h | h <;> exact absurd h (by show ¬ ((1 : Int) = _); decide), fun h => by rcases h with h | h <;> exact absurd h (by show ¬ ((1 : Int) = _); decide), fun h => by rcases h with h | h <;> exact absurd h (by show ¬ ((1 : Int) = _); decide), HLE.out, hall⟩⟩
  clear hcl
  go_loopg [225] (args.length) (fun kq v wr => ∃ k : Nat, Aside0 (k + kq = args.length) ∧ v = .int .i64 (k : Int) ∧ wr = w2 ∧ Aside0 (∀ i ∈ args.take k, 0 ≤ i ∧ i < n))
  case atStart => exact ⟨0, ⟨by omega⟩, rfl, rfl, ⟨fun i hi => by simp at hi⟩⟩
  case round =>
    obtain ⟨k, HK, rfl, rfl, HV⟩ := hrel
    by_cases hlt : k < args.length
    · exact absurd hlt (by omega)
    · obtain rfl : k = args.length := by have := HK.out; omega
      go_wp2
      go_ret
      exact ⟨true, rfl, fun _ => HMY.out (by have := HV.out; rw [List.take_length] at this; exact this), HBL.out⟩
set_option maxHeartbeats 4000000 in
set_option maxRecDepth 100000 in
theorem mayins_2 (op D A B num : Int) (nm : ByteArray) (A7 : Option Addr) (c7 : Nat) (args : List Int) (n : Int) (w : World) (h7 : (Kd.int .i64).C w A7 args.length args) (hc7 : args.length ≤ c7) :
    Calls Try.prog 33 #[.agg #[.int .i64 2, .int .i64 op, .int .i64 D, .int .i64 A, .int .i64 B, .int .i32 num, .string nm, .slice A7 args.length c7], .int .i64 n] w (Says (MayI n (XI 2 op D A B num nm args)) w) := by
  have H7 := Aside0.mk h7
  have HC7 := Aside0.mk hc7
  have HM7 := Aside0.mk (Kd.C_max h7)
  clear h7 hc7
  go_enter Try.func33, Try.ntmps33
  go_wp2_with (first
    | (go_at_call 34; (with_reducible refine (reg_calls _ _ _ _).mono ?_); rintro e w' ⟨rfl, rfl⟩)
    | fail)
  all_goals first
    | (go_ret; refine Says.no ?_; exact Below.alloc (Below.refl _ _) (Nat.le_refl _) _)
    | skip
  have HD : Aside0 (regB D n false = true) := ⟨by assumption⟩
  have HA : Aside0 (regB A n false = true) := ⟨by assumption⟩
  have HLE : Aside0 (args.length ≤ 8) := ⟨by omega⟩
  have hcl : Below w.heap.size w (w.alloc (.cells #[.int .i64 2, .int .i64 op, .int .i64 D, .int .i64 A, .int .i64 B, .int .i32 num, .string nm, .slice A7 args.length c7] 44)) := Below.alloc (Below.refl _ _) (Nat.le_refl _) _
  generalize w.alloc (.cells #[.int .i64 2, .int .i64 op, .int .i64 D, .int .i64 A, .int .i64 B, .int .i32 num, .string nm, .slice A7 args.length c7] 44) = w2 at hcl ⊢
  have HBL := Aside0.mk hcl
  have HMY : Aside0 ((∀ i ∈ args, 0 ≤ i ∧ i < n) → MayI n (XI 2 op D A B num nm args)) := ⟨fun hall => ⟨⟨by show (1 : Int) ≤ 2; decide, by show (2 : Int) ≤ 9; decide⟩, fun _ _ => by have := regB_yes HD.out; rcases this with h | h; exact .inl h; exact absurd h.1 (by decide), fun _ => by have := regB_yes HA.out; rcases this with h | h; exact h; exact absurd h.1 (by decide), fun h => by rcases h with h | h <;> exact absurd h (by show ¬ ((2 : Int) = _); decide), fun h => by rcases h with h | h <;> exact absurd h (by show ¬ ((2 : Int) = _); decide), HLE.out, hall⟩⟩
  clear hcl
  go_loopg [225] (args.length) (fun kq v wr => ∃ k : Nat, Aside0 (k + kq = args.length) ∧ v = .int .i64 (k : Int) ∧ wr = w2 ∧ Aside0 (∀ i ∈ args.take k, 0 ≤ i ∧ i < n))
  case atStart => exact ⟨0, ⟨by omega⟩, rfl, rfl, ⟨fun i hi => by simp at hi⟩⟩
  case round =>
    obtain ⟨k, HK, rfl, rfl, HV⟩ := hrel
    by_cases hlt : k < args.length
    · exact absurd hlt (by omega)
    · obtain rfl : k = args.length := by have := HK.out; omega
      go_wp2
      go_ret
      exact ⟨true, rfl, fun _ => HMY.out (by have := HV.out; rw [List.take_length] at this; exact this), HBL.out⟩
set_option maxHeartbeats 4000000 in
set_option maxRecDepth 100000 in
theorem mayins_3 (op D A B num : Int) (nm : ByteArray) (A7 : Option Addr) (c7 : Nat) (args : List Int) (n : Int) (w : World) (h7 : (Kd.int .i64).C w A7 args.length args) (hc7 : args.length ≤ c7) :
    Calls Try.prog 33 #[.agg #[.int .i64 3, .int .i64 op, .int .i64 D, .int .i64 A, .int .i64 B, .int .i32 num, .string nm, .slice A7 args.length c7], .int .i64 n] w (Says (MayI n (XI 3 op D A B num nm args)) w) := by
  have H7 := Aside0.mk h7
  have HC7 := Aside0.mk hc7
  have HM7 := Aside0.mk (Kd.C_max h7)
  clear h7 hc7
  go_enter Try.func33, Try.ntmps33
  go_wp2_with (first
    | (go_at_call 34; (with_reducible refine (reg_calls _ _ _ _).mono ?_); rintro e w' ⟨rfl, rfl⟩)
    | fail)
  all_goals first
    | (go_ret; refine Says.no ?_; exact Below.alloc (Below.refl _ _) (Nat.le_refl _) _)
    | skip
  have HD : Aside0 (regB D n false = true) := ⟨by assumption⟩
  have HA : Aside0 (regB A n false = true) := ⟨by assumption⟩
  have HLE : Aside0 (args.length ≤ 8) := ⟨by omega⟩
  have hcl : Below w.heap.size w (w.alloc (.cells #[.int .i64 3, .int .i64 op, .int .i64 D, .int .i64 A, .int .i64 B, .int .i32 num, .string nm, .slice A7 args.length c7] 44)) := Below.alloc (Below.refl _ _) (Nat.le_refl _) _
  generalize w.alloc (.cells #[.int .i64 3, .int .i64 op, .int .i64 D, .int .i64 A, .int .i64 B, .int .i32 num, .string nm, .slice A7 args.length c7] 44) = w2 at hcl ⊢
  have HBL := Aside0.mk hcl
  have HMY : Aside0 ((∀ i ∈ args, 0 ≤ i ∧ i < n) → MayI n (XI 3 op D A B num nm args)) := ⟨fun hall => ⟨⟨by show (1 : Int) ≤ 3; decide, by show (3 : Int) ≤ 9; decide⟩, fun _ _ => by have := regB_yes HD.out; rcases this with h | h; exact .inl h; exact absurd h.1 (by decide), fun _ => by have := regB_yes HA.out; rcases this with h | h; exact h; exact absurd h.1 (by decide), fun h => by rcases h with h | h <;> exact absurd h (by show ¬ ((3 : Int) = _); decide), fun h => by rcases h with h | h <;> exact absurd h (by show ¬ ((3 : Int) = _); decide), HLE.out, hall⟩⟩
  clear hcl
  go_loopg [225] (args.length) (fun kq v wr => ∃ k : Nat, Aside0 (k + kq = args.length) ∧ v = .int .i64 (k : Int) ∧ wr = w2 ∧ Aside0 (∀ i ∈ args.take k, 0 ≤ i ∧ i < n))
  case atStart => exact ⟨0, ⟨by omega⟩, rfl, rfl, ⟨fun i hi => by simp at hi⟩⟩
  case round =>
    obtain ⟨k, HK, rfl, rfl, HV⟩ := hrel
    by_cases hlt : k < args.length
    · exact absurd hlt (by omega)
    · obtain rfl : k = args.length := by have := HK.out; omega
      go_wp2
      go_ret
      exact ⟨true, rfl, fun _ => HMY.out (by have := HV.out; rw [List.take_length] at this; exact this), HBL.out⟩
set_option maxHeartbeats 4000000 in
set_option maxRecDepth 100000 in
theorem mayins_4 (op D A B num : Int) (nm : ByteArray) (A7 : Option Addr) (c7 : Nat) (args : List Int) (n : Int) (w : World) (h7 : (Kd.int .i64).C w A7 args.length args) (hc7 : args.length ≤ c7) :
    Calls Try.prog 33 #[.agg #[.int .i64 4, .int .i64 op, .int .i64 D, .int .i64 A, .int .i64 B, .int .i32 num, .string nm, .slice A7 args.length c7], .int .i64 n] w (Says (MayI n (XI 4 op D A B num nm args)) w) := by
  have H7 := Aside0.mk h7
  have HC7 := Aside0.mk hc7
  have HM7 := Aside0.mk (Kd.C_max h7)
  clear h7 hc7
  go_enter Try.func33, Try.ntmps33
  go_wp2_with (first
    | (go_at_call 34; (with_reducible refine (reg_calls _ _ _ _).mono ?_); rintro e w' ⟨rfl, rfl⟩)
    | fail)
  all_goals first
    | (go_ret; refine Says.no ?_; exact Below.alloc (Below.refl _ _) (Nat.le_refl _) _)
    | skip
  have HD : Aside0 (regB D n false = true) := ⟨by assumption⟩
  have HA : Aside0 (regB A n false = true) := ⟨by assumption⟩
  have HBB : Aside0 (regB B n false = true) := ⟨by assumption⟩
  have HLE : Aside0 (args.length ≤ 8) := ⟨by omega⟩
  have hcl : Below w.heap.size w (w.alloc (.cells #[.int .i64 4, .int .i64 op, .int .i64 D, .int .i64 A, .int .i64 B, .int .i32 num, .string nm, .slice A7 args.length c7] 44)) := Below.alloc (Below.refl _ _) (Nat.le_refl _) _
  generalize w.alloc (.cells #[.int .i64 4, .int .i64 op, .int .i64 D, .int .i64 A, .int .i64 B, .int .i32 num, .string nm, .slice A7 args.length c7] 44) = w2 at hcl ⊢
  have HBL := Aside0.mk hcl
  have HMY : Aside0 ((∀ i ∈ args, 0 ≤ i ∧ i < n) → MayI n (XI 4 op D A B num nm args)) := ⟨fun hall => ⟨⟨by show (1 : Int) ≤ 4; decide, by show (4 : Int) ≤ 9; decide⟩, fun _ _ => by have := regB_yes HD.out; rcases this with h | h; exact .inl h; exact absurd h.1 (by decide), fun _ => by have := regB_yes HA.out; rcases this with h | h; exact h; exact absurd h.1 (by decide), fun h => by rcases h with h | h <;> exact absurd h (by show ¬ ((4 : Int) = _); decide), fun _ => by have := regB_yes HBB.out; rcases this with h | h; exact h; exact absurd h.1 (by decide), HLE.out, hall⟩⟩
  clear hcl
  go_loopg [225] (args.length) (fun kq v wr => ∃ k : Nat, Aside0 (k + kq = args.length) ∧ v = .int .i64 (k : Int) ∧ wr = w2 ∧ Aside0 (∀ i ∈ args.take k, 0 ≤ i ∧ i < n))
  case atStart => exact ⟨0, ⟨by omega⟩, rfl, rfl, ⟨fun i hi => by simp at hi⟩⟩
  case round =>
    obtain ⟨k, HK, rfl, rfl, HV⟩ := hrel
    by_cases hlt : k < args.length
    · exact absurd hlt (by omega)
    · obtain rfl : k = args.length := by have := HK.out; omega
      go_wp2
      go_ret
      exact ⟨true, rfl, fun _ => HMY.out (by have := HV.out; rw [List.take_length] at this; exact this), HBL.out⟩
set_option maxHeartbeats 4000000 in
set_option maxRecDepth 100000 in
theorem mayins_5 (op D A B num : Int) (nm : ByteArray) (A7 : Option Addr) (c7 : Nat) (args : List Int) (n : Int) (w : World) (h7 : (Kd.int .i64).C w A7 args.length args) (hc7 : args.length ≤ c7) :
    Calls Try.prog 33 #[.agg #[.int .i64 5, .int .i64 op, .int .i64 D, .int .i64 A, .int .i64 B, .int .i32 num, .string nm, .slice A7 args.length c7], .int .i64 n] w (Says (MayI n (XI 5 op D A B num nm args)) w) := by
  have H7 := Aside0.mk h7
  have HC7 := Aside0.mk hc7
  have HM7 := Aside0.mk (Kd.C_max h7)
  clear h7 hc7
  go_enter Try.func33, Try.ntmps33
  go_wp2_with (first
    | (go_at_call 34; (with_reducible refine (reg_calls _ _ _ _).mono ?_); rintro e w' ⟨rfl, rfl⟩)
    | (go_at_call 19; (with_reducible refine (isname_calls _ _).mono ?_); rintro e w2 ⟨b, rfl, hb, hB⟩; have HNB := Aside0.mk hb; have HWB := Aside0.mk hB; have hx := (hB.block _ (blk_lt (blk_new _ _))).trans (blk_new _ _); have e0 := (blk_cell hx 0).trans rfl; have e1 := (blk_cell hx 1).trans rfl; have e5 := (blk_cell hx 5).trans rfl; have e7 := (blk_cell hx 7).trans rfl; clear hx hb hB; cases b)
    | fail)
  all_goals first
    | (go_ret; refine Says.no ?_; first | exact Below.alloc (Below.refl _ _) (Nat.le_refl _) _ | exact Below.trans (Below.alloc (Below.refl w.heap.size w) (Nat.le_refl _) _) (Below.mono HWB.out (Below.alloc (Below.refl w.heap.size w) (Nat.le_refl _) _).size))
    | skip
  have HD : Aside0 (regB D n false = true) := ⟨by assumption⟩
  have HA : Aside0 (regB A n true = true) := ⟨by assumption⟩
  have HLE : Aside0 (args.length ≤ 8) := ⟨by omega⟩
  have hcl : Below w.heap.size w (w.alloc (.cells #[.int .i64 5, .int .i64 op, .int .i64 D, .int .i64 A, .int .i64 B, .int .i32 num, .string nm, .slice A7 args.length c7] 44)) := Below.alloc (Below.refl _ _) (Nat.le_refl _) _
  have HBL := Aside0.mk (hcl.trans (Below.mono HWB.out hcl.size))
  have HMY : Aside0 ((∀ i ∈ args, 0 ≤ i ∧ i < n) → MayI n (XI 5 op D A B num nm args)) := ⟨fun hall => ⟨⟨by show (1 : Int) ≤ 5; decide, by show (5 : Int) ≤ 9; decide⟩, fun _ _ => by have := regB_yes HD.out; rcases this with h | h; exact .inl h; exact absurd h.1 (by decide), fun h => by rcases h with h | h | h | h <;> exact absurd h (by show ¬ ((5 : Int) = _); decide), fun _ => by have := regB_yes HA.out; rcases this with h | h; exact .inl h; exact .inr h.2, fun h => by rcases h with h | h <;> exact absurd h (by show ¬ ((5 : Int) = _); decide), HLE.out, hall⟩⟩
  clear hcl
  go_loopg [225] (args.length) (fun kq v wr => ∃ k : Nat, Aside0 (k + kq = args.length) ∧ v = .int .i64 (k : Int) ∧ wr = w2 ∧ Aside0 (∀ i ∈ args.take k, 0 ≤ i ∧ i < n))
  case atStart => exact ⟨0, ⟨by omega⟩, rfl, rfl, ⟨fun i hi => by simp at hi⟩⟩
  case round =>
    obtain ⟨k, HK, rfl, rfl, HV⟩ := hrel
    by_cases hlt : k < args.length
    · exact absurd hlt (by omega)
    · obtain rfl : k = args.length := by have := HK.out; omega
      go_wp2
      go_ret
      exact ⟨true, rfl, fun _ => HMY.out (by have := HV.out; rw [List.take_length] at this; exact this), HBL.out⟩
set_option maxHeartbeats 4000000 in
set_option maxRecDepth 100000 in
theorem mayins_6 (op D A B num : Int) (nm : ByteArray) (A7 : Option Addr) (c7 : Nat) (args : List Int) (n : Int) (w : World) (h7 : (Kd.int .i64).C w A7 args.length args) (hc7 : args.length ≤ c7) :
    Calls Try.prog 33 #[.agg #[.int .i64 6, .int .i64 op, .int .i64 D, .int .i64 A, .int .i64 B, .int .i32 num, .string nm, .slice A7 args.length c7], .int .i64 n] w (Says (MayI n (XI 6 op D A B num nm args)) w) := by
  have H7 := Aside0.mk h7
  have HC7 := Aside0.mk hc7
  have HM7 := Aside0.mk (Kd.C_max h7)
  clear h7 hc7
  go_enter Try.func33, Try.ntmps33
  go_wp2_with (first
    | (go_at_call 34; (with_reducible refine (reg_calls _ _ _ _).mono ?_); rintro e w' ⟨rfl, rfl⟩)
    | (go_at_call 19; (with_reducible refine (isname_calls _ _).mono ?_); rintro e w2 ⟨b, rfl, hb, hB⟩; have HNB := Aside0.mk hb; have HWB := Aside0.mk hB; have hx := (hB.block _ (blk_lt (blk_new _ _))).trans (blk_new _ _); have e0 := (blk_cell hx 0).trans rfl; have e1 := (blk_cell hx 1).trans rfl; have e5 := (blk_cell hx 5).trans rfl; have e7 := (blk_cell hx 7).trans rfl; clear hx hb hB; cases b)
    | fail)
  all_goals first
    | (go_ret; refine Says.no ?_; first | exact Below.alloc (Below.refl _ _) (Nat.le_refl _) _ | exact Below.trans (Below.alloc (Below.refl w.heap.size w) (Nat.le_refl _) _) (Below.mono HWB.out (Below.alloc (Below.refl w.heap.size w) (Nat.le_refl _) _).size))
    | skip
  have HA : Aside0 (regB A n true = true) := ⟨by assumption⟩
  have HBB : Aside0 (regB B n false = true) := ⟨by assumption⟩
  have HLE : Aside0 (args.length ≤ 8) := ⟨by omega⟩
  have hcl : Below w.heap.size w (w.alloc (.cells #[.int .i64 6, .int .i64 op, .int .i64 D, .int .i64 A, .int .i64 B, .int .i32 num, .string nm, .slice A7 args.length c7] 44)) := Below.alloc (Below.refl _ _) (Nat.le_refl _) _
  have HBL := Aside0.mk (hcl.trans (Below.mono HWB.out hcl.size))
  have HMY : Aside0 ((∀ i ∈ args, 0 ≤ i ∧ i < n) → MayI n (XI 6 op D A B num nm args)) := ⟨fun hall => ⟨⟨by show (1 : Int) ≤ 6; decide, by show (6 : Int) ≤ 9; decide⟩, fun h _ => absurd rfl h, fun h => by rcases h with h | h | h | h <;> exact absurd h (by show ¬ ((6 : Int) = _); decide), fun _ => by have := regB_yes HA.out; rcases this with h | h; exact .inl h; exact .inr h.2, fun _ => by have := regB_yes HBB.out; rcases this with h | h; exact h; exact absurd h.1 (by decide), HLE.out, hall⟩⟩
  clear hcl
  go_loopg [225] (args.length) (fun kq v wr => ∃ k : Nat, Aside0 (k + kq = args.length) ∧ v = .int .i64 (k : Int) ∧ wr = w2 ∧ Aside0 (∀ i ∈ args.take k, 0 ≤ i ∧ i < n))
  case atStart => exact ⟨0, ⟨by omega⟩, rfl, rfl, ⟨fun i hi => by simp at hi⟩⟩
  case round =>
    obtain ⟨k, HK, rfl, rfl, HV⟩ := hrel
    by_cases hlt : k < args.length
    · exact absurd hlt (by omega)
    · obtain rfl : k = args.length := by have := HK.out; omega
      go_wp2
      go_ret
      exact ⟨true, rfl, fun _ => HMY.out (by have := HV.out; rw [List.take_length] at this; exact this), HBL.out⟩
set_option maxHeartbeats 4000000 in
set_option maxRecDepth 100000 in
theorem mayins_7 (op D A B num : Int) (nm : ByteArray) (A7 : Option Addr) (c7 : Nat) (args : List Int) (n : Int) (w : World) (h7 : (Kd.int .i64).C w A7 args.length args) (hc7 : args.length ≤ c7) :
    Calls Try.prog 33 #[.agg #[.int .i64 7, .int .i64 op, .int .i64 D, .int .i64 A, .int .i64 B, .int .i32 num, .string nm, .slice A7 args.length c7], .int .i64 n] w (Says (MayI n (XI 7 op D A B num nm args)) w) := by
  have H7 := Aside0.mk h7
  have HC7 := Aside0.mk hc7
  have HM7 := Aside0.mk (Kd.C_max h7)
  clear h7 hc7
  go_enter Try.func33, Try.ntmps33
  go_wp2_with (first
    | (go_at_call 34; (with_reducible refine (reg_calls _ _ _ _).mono ?_); rintro e w' ⟨rfl, rfl⟩)
    | (go_at_call 19; (with_reducible refine (isname_calls _ _).mono ?_); rintro e w2 ⟨b, rfl, hb, hB⟩; have HNB := Aside0.mk hb; have HWB := Aside0.mk hB; have hx := (hB.block _ (blk_lt (blk_new _ _))).trans (blk_new _ _); have e0 := (blk_cell hx 0).trans rfl; have e1 := (blk_cell hx 1).trans rfl; have e5 := (blk_cell hx 5).trans rfl; have e7 := (blk_cell hx 7).trans rfl; clear hx hb hB; cases b)
    | fail)
  all_goals first
    | (go_ret; refine Says.no ?_; first | exact Below.alloc (Below.refl _ _) (Nat.le_refl _) _ | exact Below.trans (Below.alloc (Below.refl w.heap.size w) (Nat.le_refl _) _) (Below.mono HWB.out (Below.alloc (Below.refl w.heap.size w) (Nat.le_refl _) _).size))
    | skip
  have HD : Aside0 (regB D n true = true) := ⟨by assumption⟩
  have HLE : Aside0 (args.length ≤ 8) := ⟨by omega⟩
  have hcl : Below w.heap.size w (w.alloc (.cells #[.int .i64 7, .int .i64 op, .int .i64 D, .int .i64 A, .int .i64 B, .int .i32 num, .string nm, .slice A7 args.length c7] 44)) := Below.alloc (Below.refl _ _) (Nat.le_refl _) _
  have HBL := Aside0.mk (hcl.trans (Below.mono HWB.out hcl.size))
  have HMY : Aside0 ((∀ i ∈ args, 0 ≤ i ∧ i < n) → MayI n (XI 7 op D A B num nm args)) := ⟨fun hall => ⟨⟨by show (1 : Int) ≤ 7; decide, by show (7 : Int) ≤ 9; decide⟩, fun _ _ => by have := regB_yes HD.out; rcases this with h | h; exact .inl h; exact .inr ⟨rfl, h.2⟩, fun h => by rcases h with h | h | h | h <;> exact absurd h (by show ¬ ((7 : Int) = _); decide), fun h => by rcases h with h | h <;> exact absurd h (by show ¬ ((7 : Int) = _); decide), fun h => by rcases h with h | h <;> exact absurd h (by show ¬ ((7 : Int) = _); decide), HLE.out, hall⟩⟩
  clear hcl
  go_loopg [225] (args.length) (fun kq v wr => ∃ k : Nat, Aside0 (k + kq = args.length) ∧ v = .int .i64 (k : Int) ∧ wr = w2 ∧ Aside0 (∀ i ∈ args.take k, 0 ≤ i ∧ i < n))
  case atStart => exact ⟨0, ⟨by omega⟩, rfl, rfl, ⟨fun i hi => by simp at hi⟩⟩
  case round =>
    obtain ⟨k, HK, rfl, rfl, HV⟩ := hrel
    by_cases hlt : k < args.length
    · cases gk with
      | zero => exact absurd HK.out (by omega)
      | succ q1 =>
        obtain ⟨ad, hA, hcell⟩ := Kd.at_int (Kd.C_below H7.out HBL.out) (k : Int) (by omega) (by omega)
        rw [Int.toNat_natCast] at hcell
        obtain ⟨z, hz⟩ : ∃ z, rd args (k : Int) = z := ⟨_, rfl⟩
        have hsn : args.take (k + 1) = args.take k ++ [z] := by
          rw [List.take_succ_eq_append_getElem hlt, ← hz]
          unfold rd
          rw [Int.toNat_natCast, List.getD_eq_getElem?_getD, List.getElem?_eq_getElem hlt]
          rfl
        rw [hz] at hcell
        have HSN := Aside0.mk hsn
        subst hA
        clear hsn hz
        go_wp2_with (first
          | (go_at_call 34; (with_reducible refine (reg_calls _ _ _ _).mono ?_); rintro e w' ⟨rfl, rfl⟩)
          | fail)
        all_goals first
          | (go_ret; exact Says.no HBL.out)
          | skip
        go_roundg q1
        case measure => omega
        case rel => exact ⟨k + 1, ⟨by have := HK.out; omega⟩, by go_num, rfl, ⟨by rw [HSN.out]; intro i hi; rcases List.mem_append.1 hi with h | h; exact HV.out i h; rw [List.mem_singleton.1 h]; have hz8 : (!regB z n false) = false := (by assumption); have hz9 : regB z n false = true := (by simpa using hz8); have := regB_yes hz9; rcases this with h | h; exact h; exact absurd h.1 (by decide)⟩⟩
    · obtain rfl : k = args.length := by have := HK.out; omega
      go_wp2
      go_ret
      exact ⟨true, rfl, fun _ => HMY.out (by have := HV.out; rw [List.take_length] at this; exact this), HBL.out⟩
set_option maxHeartbeats 4000000 in
set_option maxRecDepth 100000 in
theorem mayins_8 (op D A B num : Int) (nm : ByteArray) (A7 : Option Addr) (c7 : Nat) (args : List Int) (n : Int) (w : World) (h7 : (Kd.int .i64).C w A7 args.length args) (hc7 : args.length ≤ c7) :
    Calls Try.prog 33 #[.agg #[.int .i64 8, .int .i64 op, .int .i64 D, .int .i64 A, .int .i64 B, .int .i32 num, .string nm, .slice A7 args.length c7], .int .i64 n] w (Says (MayI n (XI 8 op D A B num nm args)) w) := by
  have H7 := Aside0.mk h7
  have HC7 := Aside0.mk hc7
  have HM7 := Aside0.mk (Kd.C_max h7)
  clear h7 hc7
  go_enter Try.func33, Try.ntmps33
  go_wp2_with (first
    | (go_at_call 34; (with_reducible refine (reg_calls _ _ _ _).mono ?_); rintro e w' ⟨rfl, rfl⟩)
    | fail)
  all_goals first
    | (go_ret; refine Says.no ?_; exact Below.alloc (Below.refl _ _) (Nat.le_refl _) _)
    | skip
  have HD : Aside0 (regB D n false = true) := ⟨by assumption⟩
  have HLE : Aside0 (args.length ≤ 8) := ⟨by omega⟩
  have hcl : Below w.heap.size w (w.alloc (.cells #[.int .i64 8, .int .i64 op, .int .i64 D, .int .i64 A, .int .i64 B, .int .i32 num, .string nm, .slice A7 args.length c7] 44)) := Below.alloc (Below.refl _ _) (Nat.le_refl _) _
  generalize w.alloc (.cells #[.int .i64 8, .int .i64 op, .int .i64 D, .int .i64 A, .int .i64 B, .int .i32 num, .string nm, .slice A7 args.length c7] 44) = w2 at hcl ⊢
  have HBL := Aside0.mk hcl
  have HMY : Aside0 ((∀ i ∈ args, 0 ≤ i ∧ i < n) → MayI n (XI 8 op D A B num nm args)) := ⟨fun hall => ⟨⟨by show (1 : Int) ≤ 8; decide, by show (8 : Int) ≤ 9; decide⟩, fun _ _ => by have := regB_yes HD.out; rcases this with h | h; exact .inl h; exact absurd h.1 (by decide), fun h => by rcases h with h | h | h | h <;> exact absurd h (by show ¬ ((8 : Int) = _); decide), fun h => by rcases h with h | h <;> exact absurd h (by show ¬ ((8 : Int) = _); decide), fun h => by rcases h with h | h <;> exact absurd h (by show ¬ ((8 : Int) = _); decide), HLE.out, hall⟩⟩
  clear hcl
  go_loopg [225] (args.length) (fun kq v wr => ∃ k : Nat, Aside0 (k + kq = args.length) ∧ v = .int .i64 (k : Int) ∧ wr = w2 ∧ Aside0 (∀ i ∈ args.take k, 0 ≤ i ∧ i < n))
  case atStart => exact ⟨0, ⟨by omega⟩, rfl, rfl, ⟨fun i hi => by simp at hi⟩⟩
  case round =>
    obtain ⟨k, HK, rfl, rfl, HV⟩ := hrel
    by_cases hlt : k < args.length
    · exact absurd hlt (by omega)
    · obtain rfl : k = args.length := by have := HK.out; omega
      go_wp2
      go_ret
      exact ⟨true, rfl, fun _ => HMY.out (by have := HV.out; rw [List.take_length] at this; exact this), HBL.out⟩
set_option maxHeartbeats 4000000 in
set_option maxRecDepth 100000 in
theorem mayins_9 (op D A B num : Int) (nm : ByteArray) (A7 : Option Addr) (c7 : Nat) (args : List Int) (n : Int) (w : World) (h7 : (Kd.int .i64).C w A7 args.length args) (hc7 : args.length ≤ c7) :
    Calls Try.prog 33 #[.agg #[.int .i64 9, .int .i64 op, .int .i64 D, .int .i64 A, .int .i64 B, .int .i32 num, .string nm, .slice A7 args.length c7], .int .i64 n] w (Says (MayI n (XI 9 op D A B num nm args)) w) := by
  have H7 := Aside0.mk h7
  have HC7 := Aside0.mk hc7
  have HM7 := Aside0.mk (Kd.C_max h7)
  clear h7 hc7
  go_enter Try.func33, Try.ntmps33
  go_wp2_with (first
    | (go_at_call 34; (with_reducible refine (reg_calls _ _ _ _).mono ?_); rintro e w' ⟨rfl, rfl⟩)
    | fail)
  all_goals first
    | (go_ret; refine Says.no ?_; exact Below.alloc (Below.refl _ _) (Nat.le_refl _) _)
    | skip
  have HA : Aside0 (regB A n false = true) := ⟨by assumption⟩
  have HLE : Aside0 (args.length ≤ 8) := ⟨by omega⟩
  have hcl : Below w.heap.size w (w.alloc (.cells #[.int .i64 9, .int .i64 op, .int .i64 D, .int .i64 A, .int .i64 B, .int .i32 num, .string nm, .slice A7 args.length c7] 44)) := Below.alloc (Below.refl _ _) (Nat.le_refl _) _
  generalize w.alloc (.cells #[.int .i64 9, .int .i64 op, .int .i64 D, .int .i64 A, .int .i64 B, .int .i32 num, .string nm, .slice A7 args.length c7] 44) = w2 at hcl ⊢
  have HBL := Aside0.mk hcl
  have HMY : Aside0 ((∀ i ∈ args, 0 ≤ i ∧ i < n) → MayI n (XI 9 op D A B num nm args)) := ⟨fun hall => ⟨⟨by show (1 : Int) ≤ 9; decide, by show (9 : Int) ≤ 9; decide⟩, fun _ h => absurd rfl h, fun _ => by have := regB_yes HA.out; rcases this with h | h; exact h; exact absurd h.1 (by decide), fun h => by rcases h with h | h <;> exact absurd h (by show ¬ ((9 : Int) = _); decide), fun h => by rcases h with h | h <;> exact absurd h (by show ¬ ((9 : Int) = _); decide), HLE.out, hall⟩⟩
  clear hcl
  go_loopg [225] (args.length) (fun kq v wr => ∃ k : Nat, Aside0 (k + kq = args.length) ∧ v = .int .i64 (k : Int) ∧ wr = w2 ∧ Aside0 (∀ i ∈ args.take k, 0 ≤ i ∧ i < n))
  case atStart => exact ⟨0, ⟨by omega⟩, rfl, rfl, ⟨fun i hi => by simp at hi⟩⟩
  case round =>
    obtain ⟨k, HK, rfl, rfl, HV⟩ := hrel
    by_cases hlt : k < args.length
    · exact absurd hlt (by omega)
    · obtain rfl : k = args.length := by have := HK.out; omega
      go_wp2
      go_ret
      exact ⟨true, rfl, fun _ => HMY.out (by have := HV.out; rw [List.take_length] at this; exact this), HBL.out⟩
set_option maxHeartbeats 4000000 in
set_option maxRecDepth 100000 in
theorem mayins_lo (kd op D A B num : Int) (nm : ByteArray) (A7 : Option Addr) (c7 : Nat) (args : List Int) (n : Int) (w : World) (ho : kd < 1) :
    Calls Try.prog 33 #[.agg #[.int .i64 kd, .int .i64 op, .int .i64 D, .int .i64 A, .int .i64 B, .int .i32 num, .string nm, .slice A7 args.length c7], .int .i64 n] w (Says (MayI n (XI kd op D A B num nm args)) w) := by
  have q1 : (kd == 1) = false := by rw [beq_eq_false_iff_ne]; omega
  have r1 : (kd != 1) = true := by rw [bne_iff_ne]; omega
  have q2 : (kd == 2) = false := by rw [beq_eq_false_iff_ne]; omega
  have r2 : (kd != 2) = true := by rw [bne_iff_ne]; omega
  have q3 : (kd == 3) = false := by rw [beq_eq_false_iff_ne]; omega
  have r3 : (kd != 3) = true := by rw [bne_iff_ne]; omega
  have q4 : (kd == 4) = false := by rw [beq_eq_false_iff_ne]; omega
  have r4 : (kd != 4) = true := by rw [bne_iff_ne]; omega
  have q5 : (kd == 5) = false := by rw [beq_eq_false_iff_ne]; omega
  have r5 : (kd != 5) = true := by rw [bne_iff_ne]; omega
  have q6 : (kd == 6) = false := by rw [beq_eq_false_iff_ne]; omega
  have r6 : (kd != 6) = true := by rw [bne_iff_ne]; omega
  have q7 : (kd == 7) = false := by rw [beq_eq_false_iff_ne]; omega
  have r7 : (kd != 7) = true := by rw [bne_iff_ne]; omega
  have q9 : (kd == 9) = false := by rw [beq_eq_false_iff_ne]; omega
  have r9 : (kd != 9) = true := by rw [bne_iff_ne]; omega
  go_enter Try.func33, Try.ntmps33
  go_wp2_with (first
    | (go_at_call 34; (with_reducible refine (reg_calls _ _ _ _).mono ?_); rintro e w' ⟨rfl, rfl⟩)
    | fail)
  all_goals (go_ret; exact Says.no (Below.alloc (Below.refl _ _) (Nat.le_refl _) _))
set_option maxHeartbeats 4000000 in
set_option maxRecDepth 100000 in
theorem mayins_hi (kd op D A B num : Int) (nm : ByteArray) (A7 : Option Addr) (c7 : Nat) (args : List Int) (n : Int) (w : World) (ho : 9 < kd) :
    Calls Try.prog 33 #[.agg #[.int .i64 kd, .int .i64 op, .int .i64 D, .int .i64 A, .int .i64 B, .int .i32 num, .string nm, .slice A7 args.length c7], .int .i64 n] w (Says (MayI n (XI kd op D A B num nm args)) w) := by
  have q1 : (kd == 1) = false := by rw [beq_eq_false_iff_ne]; omega
  have r1 : (kd != 1) = true := by rw [bne_iff_ne]; omega
  have q2 : (kd == 2) = false := by rw [beq_eq_false_iff_ne]; omega
  have r2 : (kd != 2) = true := by rw [bne_iff_ne]; omega
  have q3 : (kd == 3) = false := by rw [beq_eq_false_iff_ne]; omega
  have r3 : (kd != 3) = true := by rw [bne_iff_ne]; omega
  have q4 : (kd == 4) = false := by rw [beq_eq_false_iff_ne]; omega
  have r4 : (kd != 4) = true := by rw [bne_iff_ne]; omega
  have q5 : (kd == 5) = false := by rw [beq_eq_false_iff_ne]; omega
  have r5 : (kd != 5) = true := by rw [bne_iff_ne]; omega
  have q6 : (kd == 6) = false := by rw [beq_eq_false_iff_ne]; omega
  have r6 : (kd != 6) = true := by rw [bne_iff_ne]; omega
  have q7 : (kd == 7) = false := by rw [beq_eq_false_iff_ne]; omega
  have r7 : (kd != 7) = true := by rw [bne_iff_ne]; omega
  have q9 : (kd == 9) = false := by rw [beq_eq_false_iff_ne]; omega
  have r9 : (kd != 9) = true := by rw [bne_iff_ne]; omega
  go_enter Try.func33, Try.ntmps33
  go_wp2_with (first
    | (go_at_call 34; (with_reducible refine (reg_calls _ _ _ _).mono ?_); rintro e w' ⟨rfl, rfl⟩)
    | fail)
  all_goals (go_ret; exact Says.no (Below.alloc (Below.refl _ _) (Nat.le_refl _) _))
end Go.Proofs.Ytabkinlpbefjgaa.L

namespace Go.Proofs.Ytabkinlpbefjgaa.L
open Go.RowKit Go.Proofs.Ytabkinlpbefjgaa.X Go.Proofs.YtabkinlpbefjgaaW.PrintWords Go.Proofs.YtabkinlpbefjgaaW.PrintLast Go.Proofs.YtabkinlpbefjgaaW.PrintMore
attribute [local go_sem] max2_int min2_int max_two min_two max_three min_three max_four min_four   -- for this text's walks alone
set_option linter.unusedVariables false
set_option linter.unusedSimpArgs false
open Go.Proofs.Ytabkinlpbefjgaa.Pure
theorem mayins_calls (x : S44) (A7 : Option Addr) (c7 : Nat) (n : Int) (w : World) (h7 : (Kd.int .i64).C w A7 x.f7.length x.f7) (hc7 : x.f7.length ≤ c7) :
    Calls Try.prog 33 #[.agg #[.int .i64 x.f0, .int .i64 x.f1, .int .i64 x.f2, .int .i64 x.f3, .int .i64 x.f4, .int .i32 x.f5, .string x.f6, .slice A7 x.f7.length c7], .int .i64 n] w (Says (MayI n x) w) := by
  obtain ⟨kd, op, D, A, B, num, nm, args⟩ := x
  have hk : kd < 1 ∨ kd = 1 ∨ kd = 2 ∨ kd = 3 ∨ kd = 4 ∨ kd = 5 ∨ kd = 6 ∨ kd = 7 ∨ kd = 8 ∨ kd = 9 ∨ 9 < kd := by omega
  rcases hk with h | rfl | rfl | rfl | rfl | rfl | rfl | rfl | rfl | rfl | h
  · exact mayins_lo kd op D A B num nm A7 c7 args n w h
  · exact mayins_1 op D A B num nm A7 c7 args n w h7 hc7
  · exact mayins_2 op D A B num nm A7 c7 args n w h7 hc7
  · exact mayins_3 op D A B num nm A7 c7 args n w h7 hc7
  · exact mayins_4 op D A B num nm A7 c7 args n w h7 hc7
  · exact mayins_5 op D A B num nm A7 c7 args n w h7 hc7
  · exact mayins_6 op D A B num nm A7 c7 args n w h7 hc7
  · exact mayins_7 op D A B num nm A7 c7 args n w h7 hc7
  · exact mayins_8 op D A B num nm A7 c7 args n w h7 hc7
  · exact mayins_9 op D A B num nm A7 c7 args n w h7 hc7
  · exact mayins_hi kd op D A B num nm A7 c7 args n w h
theorem nxt {k n : Nat} (h : k < n) (hm : n ≤ 9223372036854775807) : Value.int .i64 (wrap64 ((k : Int) + 1)) = .int .i64 ((k + 1 : Nat) : Int) := by rw [w64 (by omega) (by omega)]; rfl
structure MayB (n : Int) (nb : Nat) (b : S41) : Prop where
  ins : ∀ x ∈ b.f0, MayI n x
  kind : b.f1 = 1 ∨ b.f1 = 2 ∨ b.f1 = 3
  to1 : b.f1 = 1 ∨ b.f1 = 2 → 0 ≤ b.f3 ∧ b.f3 < (nb : Int)
  to2 : b.f1 = 2 → 0 ≤ b.f4 ∧ b.f4 < (nb : Int)
  a : b.f1 = 2 ∨ b.f1 = 3 → 0 ≤ b.f2 ∧ b.f2 < n
structure MayF (f : S47) : Prop where
  name : f.f0.size ≤ 64
  params : 0 ≤ f.f1 ∧ f.f1 ≤ 8 ∧ f.f1 ≤ f.f2
  regs : f.f2 ≤ 4096
  some_ : 0 < f.f3.length
  blks : ∀ b ∈ f.f3, MayB f.f2 f.f3.length b
theorem fill5 {W : World} {g : Nat} {t : TypeId} {a0 a1 a2 a3 a4 u0 u1 u2 u3 u4 : Value} (h : W.heap[g]? = some (.cells #[a0, a1, a2, a3, a4] t (0, 0))) : (((((W.setCell ⟨g, 0, none⟩ u0).setCell ⟨g, 1, none⟩ u1).setCell ⟨g, 2, none⟩ u2).setCell ⟨g, 3, none⟩ u3).setCell ⟨g, 4, none⟩ u4).heap[g]? = some (.cells #[u0, u1, u2, u3, u4] t (0, 0)) := by
  have h0 : (W.setCell ⟨g, 0, none⟩ u0).heap[g]? = some (.cells #[u0, a1, a2, a3, a4] t (0, 0)) := blk_put h 0 u0 rfl
  have h1 : ((W.setCell ⟨g, 0, none⟩ u0).setCell ⟨g, 1, none⟩ u1).heap[g]? = some (.cells #[u0, u1, a2, a3, a4] t (0, 0)) := blk_put h0 1 u1 rfl
  have h2 : (((W.setCell ⟨g, 0, none⟩ u0).setCell ⟨g, 1, none⟩ u1).setCell ⟨g, 2, none⟩ u2).heap[g]? = some (.cells #[u0, u1, u2, a3, a4] t (0, 0)) := blk_put h1 2 u2 rfl
  have h3 : ((((W.setCell ⟨g, 0, none⟩ u0).setCell ⟨g, 1, none⟩ u1).setCell ⟨g, 2, none⟩ u2).setCell ⟨g, 3, none⟩ u3).heap[g]? = some (.cells #[u0, u1, u2, u3, a4] t (0, 0)) := blk_put h2 3 u3 rfl
  have h4 : (((((W.setCell ⟨g, 0, none⟩ u0).setCell ⟨g, 1, none⟩ u1).setCell ⟨g, 2, none⟩ u2).setCell ⟨g, 3, none⟩ u3).setCell ⟨g, 4, none⟩ u4).heap[g]? = some (.cells #[u0, u1, u2, u3, u4] t (0, 0)) := blk_put h3 4 u4 rfl
  exact h4
theorem fillB5 {B : Nat} {w0 W : World} {g : Nat} {u0 u1 u2 u3 u4 : Value} (hB : Below B w0 W) (hg : B ≤ g) : Below B w0 (((((W.setCell ⟨g, 0, none⟩ u0).setCell ⟨g, 1, none⟩ u1).setCell ⟨g, 2, none⟩ u2).setCell ⟨g, 3, none⟩ u3).setCell ⟨g, 4, none⟩ u4) := (Below.setCell (Below.setCell (Below.setCell (Below.setCell (Below.setCell hB (p := ⟨g, 0, none⟩) hg u0) (p := ⟨g, 1, none⟩) hg u1) (p := ⟨g, 2, none⟩) hg u2) (p := ⟨g, 3, none⟩) hg u3) (p := ⟨g, 4, none⟩) hg u4)
theorem fill8 {W : World} {g : Nat} {t : TypeId} {a0 a1 a2 a3 a4 a5 a6 a7 u0 u1 u2 u3 u4 u5 u6 u7 : Value} (h : W.heap[g]? = some (.cells #[a0, a1, a2, a3, a4, a5, a6, a7] t (0, 0))) : ((((((((W.setCell ⟨g, 0, none⟩ u0).setCell ⟨g, 1, none⟩ u1).setCell ⟨g, 2, none⟩ u2).setCell ⟨g, 3, none⟩ u3).setCell ⟨g, 4, none⟩ u4).setCell ⟨g, 5, none⟩ u5).setCell ⟨g, 6, none⟩ u6).setCell ⟨g, 7, none⟩ u7).heap[g]? = some (.cells #[u0, u1, u2, u3, u4, u5, u6, u7] t (0, 0)) := by
  have h0 : (W.setCell ⟨g, 0, none⟩ u0).heap[g]? = some (.cells #[u0, a1, a2, a3, a4, a5, a6, a7] t (0, 0)) := blk_put h 0 u0 rfl
  have h1 : ((W.setCell ⟨g, 0, none⟩ u0).setCell ⟨g, 1, none⟩ u1).heap[g]? = some (.cells #[u0, u1, a2, a3, a4, a5, a6, a7] t (0, 0)) := blk_put h0 1 u1 rfl
  have h2 : (((W.setCell ⟨g, 0, none⟩ u0).setCell ⟨g, 1, none⟩ u1).setCell ⟨g, 2, none⟩ u2).heap[g]? = some (.cells #[u0, u1, u2, a3, a4, a5, a6, a7] t (0, 0)) := blk_put h1 2 u2 rfl
  have h3 : ((((W.setCell ⟨g, 0, none⟩ u0).setCell ⟨g, 1, none⟩ u1).setCell ⟨g, 2, none⟩ u2).setCell ⟨g, 3, none⟩ u3).heap[g]? = some (.cells #[u0, u1, u2, u3, a4, a5, a6, a7] t (0, 0)) := blk_put h2 3 u3 rfl
  have h4 : (((((W.setCell ⟨g, 0, none⟩ u0).setCell ⟨g, 1, none⟩ u1).setCell ⟨g, 2, none⟩ u2).setCell ⟨g, 3, none⟩ u3).setCell ⟨g, 4, none⟩ u4).heap[g]? = some (.cells #[u0, u1, u2, u3, u4, a5, a6, a7] t (0, 0)) := blk_put h3 4 u4 rfl
  have h5 : ((((((W.setCell ⟨g, 0, none⟩ u0).setCell ⟨g, 1, none⟩ u1).setCell ⟨g, 2, none⟩ u2).setCell ⟨g, 3, none⟩ u3).setCell ⟨g, 4, none⟩ u4).setCell ⟨g, 5, none⟩ u5).heap[g]? = some (.cells #[u0, u1, u2, u3, u4, u5, a6, a7] t (0, 0)) := blk_put h4 5 u5 rfl
  have h6 : (((((((W.setCell ⟨g, 0, none⟩ u0).setCell ⟨g, 1, none⟩ u1).setCell ⟨g, 2, none⟩ u2).setCell ⟨g, 3, none⟩ u3).setCell ⟨g, 4, none⟩ u4).setCell ⟨g, 5, none⟩ u5).setCell ⟨g, 6, none⟩ u6).heap[g]? = some (.cells #[u0, u1, u2, u3, u4, u5, u6, a7] t (0, 0)) := blk_put h5 6 u6 rfl
  have h7 : ((((((((W.setCell ⟨g, 0, none⟩ u0).setCell ⟨g, 1, none⟩ u1).setCell ⟨g, 2, none⟩ u2).setCell ⟨g, 3, none⟩ u3).setCell ⟨g, 4, none⟩ u4).setCell ⟨g, 5, none⟩ u5).setCell ⟨g, 6, none⟩ u6).setCell ⟨g, 7, none⟩ u7).heap[g]? = some (.cells #[u0, u1, u2, u3, u4, u5, u6, u7] t (0, 0)) := blk_put h6 7 u7 rfl
  exact h7
theorem fillB8 {B : Nat} {w0 W : World} {g : Nat} {u0 u1 u2 u3 u4 u5 u6 u7 : Value} (hB : Below B w0 W) (hg : B ≤ g) : Below B w0 ((((((((W.setCell ⟨g, 0, none⟩ u0).setCell ⟨g, 1, none⟩ u1).setCell ⟨g, 2, none⟩ u2).setCell ⟨g, 3, none⟩ u3).setCell ⟨g, 4, none⟩ u4).setCell ⟨g, 5, none⟩ u5).setCell ⟨g, 6, none⟩ u6).setCell ⟨g, 7, none⟩ u7) := (Below.setCell (Below.setCell (Below.setCell (Below.setCell (Below.setCell (Below.setCell (Below.setCell (Below.setCell hB (p := ⟨g, 0, none⟩) hg u0) (p := ⟨g, 1, none⟩) hg u1) (p := ⟨g, 2, none⟩) hg u2) (p := ⟨g, 3, none⟩) hg u3) (p := ⟨g, 4, none⟩) hg u4) (p := ⟨g, 5, none⟩) hg u5) (p := ⟨g, 6, none⟩) hg u6) (p := ⟨g, 7, none⟩) hg u7)
set_option maxHeartbeats 4000000 in
set_option maxRecDepth 100000 in
theorem mayfn_calls (f : S47) (A3 : Option Addr) (c3 : Nat) (w : World) (h3 : Kd.C k41 w A3 f.f3.length f.f3) (hc3 : f.f3.length ≤ c3) :
    Calls Try.prog 22 #[.agg #[.string f.f0, .int .i64 f.f1, .int .i64 f.f2, .slice A3 f.f3.length c3]] w (Says (MayF f) w) := by
  have H3 := Aside0.mk h3
  have HM3 := Aside0.mk (Kd.C_max h3)
  clear h3 hc3
  go_enter Try.func22, Try.ntmps22
  go_wp2_with (first
    | (go_at_call 19; (with_reducible refine (isname_calls _ _).mono ?_); rintro e w2 ⟨b, rfl, hb, hB⟩; have HNB := Aside0.mk hb; have HWB := Aside0.mk ((Below.alloc (Below.refl w.heap.size w) (Nat.le_refl _) _).trans (Below.mono hB (Below.alloc (Below.refl w.heap.size w) (Nat.le_refl _) _).size)); have hx := (hB.block _ (blk_lt (blk_new _ _))).trans (blk_new _ _); have HX := Aside0.mk hx; have e1 := (blk_cell hx 1).trans rfl; have e2 := (blk_cell hx 2).trans rfl; have e3 := (blk_cell hx 3).trans rfl; clear hx hb hB; cases b)
    | fail)
  all_goals first
    | (go_ret; exact Says.no HWB.out)
    | skip
  obtain ⟨⟨⟨⟨p0, p1⟩, p2⟩, p3⟩, p4⟩ := (by assumption : ((((0 ≤ f.f1 ∧ f.f1 ≤ 8) ∧ f.f1 ≤ f.f2) ∧ f.f2 ≤ 4096) ∧ ((f.f3.length : Int) == 0) = false))
  have p5 : 0 < f.f3.length := by
    rcases Nat.eq_zero_or_pos f.f3.length with h | h
    · rw [h] at p4; exact absurd p4 (by decide)
    · exact h
  have HMF : Aside0 ((∀ b ∈ f.f3, MayB f.f2 f.f3.length b) → MayF f) := ⟨fun h => ⟨HNB.out trivial, ⟨p0, p1, p2⟩, p3, p5, h⟩⟩
  clear p0 p1 p2 p3 p4 p5
  rename_i i4 i3 i2 i1 i0 iK iA
  clear i4 i3 i2 i1 i0
  go_loopg [51] (f.f3.length) (fun kq v wr => ∃ k : Nat, Aside0 (k + kq = f.f3.length) ∧ v = .int .i64 (k : Int) ∧ Aside0 (Below w.heap.size w wr) ∧ Aside0 (wr.heap[w.heap.size]? = some (.cells #[.string f.f0, .int .i64 f.f1, .int .i64 f.f2, .slice A3 f.f3.length c3] 47 (0, 0))) ∧ Aside0 (∀ b ∈ f.f3.take k, MayB f.f2 f.f3.length b))
  case atStart => exact ⟨0, ⟨by omega⟩, rfl, HWB, HX, ⟨fun i hi => by simp at hi⟩⟩
  case round =>
    obtain ⟨k, HK, rfl, HBL, HXR, HV⟩ := hrel
    by_cases hlt : k < f.f3.length
    · cases gk with
      | zero => exact absurd HK.out (by omega)
      | succ q1 =>
        obtain ⟨ad, A0, c0, hA, z0, z1, z2, z3, z4, hl0, hi0⟩ := at_T41 (Kd.C_below H3.out HBL.out) (k : Int) (by omega) (by omega)
        rw [Int.toNat_natCast] at z0 z1 z2 z3 z4
        obtain ⟨b, hz⟩ : ∃ b, rd_T41 f.f3 (k : Int) = b := ⟨_, rfl⟩
        have hbe : b = f.f3[k] := by
          rw [← hz]; unfold rd_T41; rw [Int.toNat_natCast, List.getD_eq_getElem?_getD, List.getElem?_eq_getElem hlt]; rfl
        have hsn : f.f3.take (k + 1) = f.f3.take k ++ [b] := by rw [List.take_succ_eq_append_getElem hlt, hbe]
        rw [hz] at z0 z1 z2 z3 z4 hl0 hi0
        have HSN := Aside0.mk hsn
        have HL0 := Aside0.mk hl0
        have HI0 := Aside0.mk hi0
        have HMI := Aside0.mk (Kd.C_max hi0)
        subst hA
        clear hsn hz hbe hl0 hi0
        go_wp2_with (first
    | ((with_reducible refine gate_dst (N := 5) rfl ?_)
       refine box_event rfl (N := 5) rfl (cs := #[.slice none 0 0, .int .i64 0, .int .i64 0, .int .i64 0, .int .i64 0]) (t := 41) ?hr ?_
       case hr => first | (go_simp; done) | (go_simp; rfl)
       intro gb hg w1 hbox hb; have hz0 : w1.cell? ⟨gb, 0, none⟩ = some (.slice none 0 0) := (blk_cell hbox 0).trans rfl; have hf0 := blk_frozen hbox 0; have hz1 : w1.cell? ⟨gb, 1, none⟩ = some (.int .i64 0) := (blk_cell hbox 1).trans rfl; have hf1 := blk_frozen hbox 1; have hz2 : w1.cell? ⟨gb, 2, none⟩ = some (.int .i64 0) := (blk_cell hbox 2).trans rfl; have hf2 := blk_frozen hbox 2; have hz3 : w1.cell? ⟨gb, 3, none⟩ = some (.int .i64 0) := (blk_cell hbox 3).trans rfl; have hf3 := blk_frozen hbox 3; have hz4 : w1.cell? ⟨gb, 4, none⟩ = some (.int .i64 0) := (blk_cell hbox 4).trans rfl; have hf4 := blk_frozen hbox 4
       have HG := Aside0.mk (Nat.le_of_eq hg.symm)
       clear hg)
    | ((with_reducible refine gate_store (t := 41) (p := 5) rfl ?_)
       refine store_event (w1 := (((((w1.setCell ⟨gb, 0, none⟩ (.slice A0 b.f0.length c0)).setCell ⟨gb, 1, none⟩ (.int .i64 b.f1)).setCell ⟨gb, 2, none⟩ (.int .i64 b.f2)).setCell ⟨gb, 3, none⟩ (.int .i64 b.f3)).setCell ⟨gb, 4, none⟩ (.int .i64 b.f4))) rfl (t := 41) (p := 5) rfl rfl ?hr ?_
       case hr => first | (go_simp; done) | (go_simp; rfl)
       intro wb hw
       have hcb := hw ▸ fill5 (g := gb) hbox
       have hbl := hw ▸ fillB5 (g := gb) hb HG.out
       have HXB := Aside0.mk hcb
       have HB5 := Aside0.mk hbl
       have HX2 := Aside0.mk (blk_below (g := w.heap.size) HXR.out hbl)
       have y0 := (blk_cell hcb 0).trans rfl
       clear hcb hbl hw hbox hb hz0 hz1 hz2 hz3 hz4 hf0 hf1 hf2 hf3 hf4)
    | fail)
        go_loopg [58] (b.f0.length) (fun kq v wi => ∃ j : Nat, Aside0 (j + kq = b.f0.length) ∧ v = .int .i64 (j : Int) ∧ Aside0 (Below wr.heap.size wr wi) ∧ Aside0 (wi.heap[w.heap.size]? = some (.cells #[.string f.f0, .int .i64 f.f1, .int .i64 f.f2, .slice (some ad) f.f3.length c3] 47 (0, 0))) ∧ Aside0 (wi.heap[gb]? = some (.cells #[.slice A0 b.f0.length c0, .int .i64 b.f1, .int .i64 b.f2, .int .i64 b.f3, .int .i64 b.f4] 41 (0, 0))) ∧ Aside0 (∀ x ∈ b.f0.take j, MayI f.f2 x))
        case atStart => exact ⟨0, ⟨by omega⟩, rfl, HB5, HX2, HXB, ⟨fun i hi => by simp at hi⟩⟩
        case round =>
          obtain ⟨j, HJ, rfl, HBI, HXI, HBB, HVI⟩ := hrel
          by_cases hlj : j < b.f0.length
          · cases gk with
            | zero => exact absurd HJ.out (by omega)
            | succ q2 =>
              obtain ⟨adx, A7, c7, hAx, x0, x1, x2, x3, x4, x5, x6, x7, hl7, hi7⟩ := at_T44 (Kd.C_below HI0.out HBI.out) (j : Int) (by omega) (by omega)
              rw [Int.toNat_natCast] at x0 x1 x2 x3 x4 x5 x6 x7
              obtain ⟨x, hz⟩ : ∃ x, rd_T44 b.f0 (j : Int) = x := ⟨_, rfl⟩
              have hxe : x = b.f0[j] := by
                rw [← hz]; unfold rd_T44; rw [Int.toNat_natCast, List.getD_eq_getElem?_getD, List.getElem?_eq_getElem hlj]; rfl
              have hsx : b.f0.take (j + 1) = b.f0.take j ++ [x] := by rw [List.take_succ_eq_append_getElem hlj, hxe]
              rw [hz] at x0 x1 x2 x3 x4 x5 x6 x7 hl7 hi7
              have HSX := Aside0.mk hsx
              have HL7 := Aside0.mk hl7
              have HI7 := Aside0.mk hi7
              subst hAx
              clear hsx hz hxe hl7 hi7
              go_wp2_with (first
    | ((with_reducible refine gate_dst (N := 7) rfl ?_)
       refine box_event rfl (N := 7) rfl (cs := #[.int .i64 0, .int .i64 0, .int .i64 0, .int .i64 0, .int .i64 0, .int .i32 0, .string (⟨#[]⟩ : ByteArray), .slice none 0 0]) (t := 44) ?hr ?_
       case hr => first | (go_simp; done) | (go_simp; rfl)
       intro gx hg w1x hbox hb; have hz0 : w1x.cell? ⟨gx, 0, none⟩ = some (.int .i64 0) := (blk_cell hbox 0).trans rfl; have hf0 := blk_frozen hbox 0; have hz1 : w1x.cell? ⟨gx, 1, none⟩ = some (.int .i64 0) := (blk_cell hbox 1).trans rfl; have hf1 := blk_frozen hbox 1; have hz2 : w1x.cell? ⟨gx, 2, none⟩ = some (.int .i64 0) := (blk_cell hbox 2).trans rfl; have hf2 := blk_frozen hbox 2; have hz3 : w1x.cell? ⟨gx, 3, none⟩ = some (.int .i64 0) := (blk_cell hbox 3).trans rfl; have hf3 := blk_frozen hbox 3; have hz4 : w1x.cell? ⟨gx, 4, none⟩ = some (.int .i64 0) := (blk_cell hbox 4).trans rfl; have hf4 := blk_frozen hbox 4; have hz5 : w1x.cell? ⟨gx, 5, none⟩ = some (.int .i32 0) := (blk_cell hbox 5).trans rfl; have hf5 := blk_frozen hbox 5; have hz6 : w1x.cell? ⟨gx, 6, none⟩ = some (.string (⟨#[]⟩ : ByteArray)) := (blk_cell hbox 6).trans rfl; have hf6 := blk_frozen hbox 6; have hz7 : w1x.cell? ⟨gx, 7, none⟩ = some (.slice none 0 0) := (blk_cell hbox 7).trans rfl; have hf7 := blk_frozen hbox 7
       have HG := Aside0.mk (Nat.le_of_eq hg.symm)
       clear hg)
    | ((with_reducible refine gate_store (t := 44) (p := 7) rfl ?_)
       refine store_event (w1 := ((((((((w1x.setCell ⟨gx, 0, none⟩ (.int .i64 x.f0)).setCell ⟨gx, 1, none⟩ (.int .i64 x.f1)).setCell ⟨gx, 2, none⟩ (.int .i64 x.f2)).setCell ⟨gx, 3, none⟩ (.int .i64 x.f3)).setCell ⟨gx, 4, none⟩ (.int .i64 x.f4)).setCell ⟨gx, 5, none⟩ (.int .i32 x.f5)).setCell ⟨gx, 6, none⟩ (.string x.f6)).setCell ⟨gx, 7, none⟩ (.slice A7 x.f7.length c7))) rfl (t := 44) (p := 7) rfl rfl ?hr ?_
       case hr => first | (go_simp; done) | (go_simp; rfl)
       intro wx hw
       have hcb := hw ▸ fill8 (g := gx) hbox
       have hbl := hw ▸ fillB8 (g := gx) hb HG.out
       have HBX := Aside0.mk hbl
       have hfx := blk_below (g := w.heap.size) HXI.out hbl
       have e2 := (blk_cell hfx 2).trans rfl
       have y0 := (blk_cell hcb 0).trans rfl
       have y1 := (blk_cell hcb 1).trans rfl
       have y2 := (blk_cell hcb 2).trans rfl
       have y3 := (blk_cell hcb 3).trans rfl
       have y4 := (blk_cell hcb 4).trans rfl
       have y5 := (blk_cell hcb 5).trans rfl
       have y6 := (blk_cell hcb 6).trans rfl
       have y7 := (blk_cell hcb 7).trans rfl
       clear hfx hcb hbl hw hbox hb hz0 hz1 hz2 hz3 hz4 hz5 hz6 hz7 hf0 hf1 hf2 hf3 hf4 hf5 hf6 hf7)
    | (go_at_call 33; (with_reducible refine (mayins_calls x A7 c7 f.f2 _ (Kd.C_below HI7.out HBX.out) HL7.out).mono ?_); rintro e w5 ⟨bb, rfl, hbb, hB5⟩
       have HQ := Aside0.mk hbb
       have HB3 := Aside0.mk (below_step (below_step HBI.out HBX.out) hB5)
       have HX5 := Aside0.mk (blk_below (blk_below HXI.out HBX.out) hB5)
       have HBB5 := Aside0.mk (blk_below (blk_below HBB.out HBX.out) hB5)
       have HWW := Aside0.mk (below_step HBL.out HB3.out)
       clear hbb hB5
       cases bb)
    | fail)
              all_goals first
                | (go_ret; exact Says.no HWW.out)
                | skip
              go_roundg q2
              case measure => omega
              case rel => exact ⟨j + 1, ⟨by have := HJ.out; omega⟩, nxt hlj HMI.out, HB3, HX5, HBB5, ⟨by rw [HSX.out]; intro i hi; rcases List.mem_append.1 hi with h | h; exact HVI.out i h; rw [List.mem_singleton.1 h]; exact HQ.out trivial⟩⟩
          · obtain rfl : j = b.f0.length := by have := HJ.out; omega
            have HWW := Aside0.mk (below_step HBL.out HBI.out)
            have HINS : Aside0 (∀ x ∈ b.f0, MayI f.f2 x) := ⟨by have := HVI.out; rw [List.take_length] at this; exact this⟩
            have e2 := (blk_cell HXI.out 2).trans rfl
            have y1 := (blk_cell HBB.out 1).trans rfl
            have y2 := (blk_cell HBB.out 2).trans rfl
            have y3 := (blk_cell HBB.out 3).trans rfl
            have y4 := (blk_cell HBB.out 4).trans rfl
            have hk : b.f1 = 1 ∨ b.f1 = 2 ∨ b.f1 = 3 ∨ (b.f1 ≠ 1 ∧ b.f1 ≠ 2 ∧ b.f1 ≠ 3) := by omega
            rcases hk with hk | hk | hk | hk
            · rw [hk] at y1; have HKD := Aside0.mk hk; clear hk
              go_wp2_with (first
                | (go_at_call 34; (with_reducible refine (reg_calls _ _ _ _).mono ?_); rintro e w' ⟨rfl, rfl⟩)
                | fail)
              all_goals first
                | (go_ret; exact Says.no HWW.out)
                | skip
              all_goals
                have HMB : Aside0 (MayB f.f2 f.f3.length b) := ⟨⟨HINS.out, by have := HKD.out; omega, fun _ => ⟨by omega, by omega⟩, fun h => absurd (HKD.out.symm.trans h) (by decide), fun h => h.elim (fun h => absurd (HKD.out.symm.trans h) (by decide)) (fun h => absurd (HKD.out.symm.trans h) (by decide))⟩⟩
                go_roundg q1
                case measure => omega
                case rel => exact ⟨k + 1, ⟨by have := HK.out; omega⟩, nxt hlt HM3.out, HWW, HXI, ⟨by rw [HSN.out]; intro i hi; rcases List.mem_append.1 hi with h | h; exact HV.out i h; rw [List.mem_singleton.1 h]; exact HMB.out⟩⟩
            · rw [hk] at y1; have HKD := Aside0.mk hk; clear hk
              go_wp2_with (first
                | (go_at_call 34; (with_reducible refine (reg_calls _ _ _ _).mono ?_); rintro e w' ⟨rfl, rfl⟩)
                | fail)
              all_goals first
                | (go_ret; exact Says.no HWW.out)
                | skip
              all_goals
                have HMB : Aside0 (MayB f.f2 f.f3.length b) := ⟨⟨HINS.out, by have := HKD.out; omega, fun _ => ⟨by omega, by omega⟩, fun _ => ⟨by omega, by omega⟩, fun _ => by have h9 : regB b.f2 f.f2 false = true := (by first | assumption | exact by simpa using (by assumption : (!regB b.f2 f.f2 false) = false)); have := regB_yes h9; rcases this with h | h; exact h; exact absurd h.1 (by decide)⟩⟩
                go_roundg q1
                case measure => omega
                case rel => exact ⟨k + 1, ⟨by have := HK.out; omega⟩, nxt hlt HM3.out, HWW, HXI, ⟨by rw [HSN.out]; intro i hi; rcases List.mem_append.1 hi with h | h; exact HV.out i h; rw [List.mem_singleton.1 h]; exact HMB.out⟩⟩
            · rw [hk] at y1; have HKD := Aside0.mk hk; clear hk
              go_wp2_with (first
                | (go_at_call 34; (with_reducible refine (reg_calls _ _ _ _).mono ?_); rintro e w' ⟨rfl, rfl⟩)
                | fail)
              all_goals first
                | (go_ret; exact Says.no HWW.out)
                | skip
              all_goals
                have HMB : Aside0 (MayB f.f2 f.f3.length b) := ⟨⟨HINS.out, by have := HKD.out; omega, fun h => h.elim (fun h => absurd (HKD.out.symm.trans h) (by decide)) (fun h => absurd (HKD.out.symm.trans h) (by decide)), fun h => absurd (HKD.out.symm.trans h) (by decide), fun _ => by have h9 : regB b.f2 f.f2 false = true := (by first | assumption | exact by simpa using (by assumption : (!regB b.f2 f.f2 false) = false)); have := regB_yes h9; rcases this with h | h; exact h; exact absurd h.1 (by decide)⟩⟩
                go_roundg q1
                case measure => omega
                case rel => exact ⟨k + 1, ⟨by have := HK.out; omega⟩, nxt hlt HM3.out, HWW, HXI, ⟨by rw [HSN.out]; intro i hi; rcases List.mem_append.1 hi with h | h; exact HV.out i h; rw [List.mem_singleton.1 h]; exact HMB.out⟩⟩
            · have q1_ : (b.f1 == 1) = false := by rw [beq_eq_false_iff_ne]; exact hk.1
              have q2_ : (b.f1 == 2) = false := by rw [beq_eq_false_iff_ne]; exact hk.2.1
              have q3_ : (b.f1 == 3) = false := by rw [beq_eq_false_iff_ne]; exact hk.2.2
              clear hk
              go_wp2_with (first
                | (go_at_call 34; (with_reducible refine (reg_calls _ _ _ _).mono ?_); rintro e w' ⟨rfl, rfl⟩)
                | fail)
              all_goals first
                | (go_ret; exact Says.no HWW.out)
                | skip
    · obtain rfl : k = f.f3.length := by have := HK.out; omega
      go_wp2
      go_ret
      exact ⟨true, rfl, fun _ => HMF.out (by have := HV.out; rw [List.take_length] at this; exact this), HBL.out⟩
end Go.Proofs.Ytabkinlpbefjgaa.L

