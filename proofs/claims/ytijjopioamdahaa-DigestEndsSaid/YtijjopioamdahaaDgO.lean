/- SHA-256 of as many bytes as one likes: the law's walk. -/
import Derived.Test.YtijjopioamdahaaProg
import Derived.Below
import Derived.Deep.Draws
import Derived.Deep.AppendLies
import Derived.Maps.AppendAt
import Derived.OwnWalk
import Derived.Laws.BytesArg
import Derived.Laws.MakeOwn
import Derived.Laws.OwnMore
import Derived.Deep.OwnRows
import Derived.Tactics
import Derived.Lib.ConvBytes
import Derived.Laws.Slices
import Derived.WalkKit
import Derived.KernelRfl
import Derived.RowKit3
import Derived.Deep.LoopGhost
import Derived.Deep.QuietTactic
import Derived.BigQuiet
import Derived.WideLaws
import Derived.Deep.DeepCutAuto
import Derived.Deep.CutBlock
import Derived.Deep.RegionHeld3
import Derived.Laws.Rows
import Derived.Lib.AppendStr
import Derived.ArgAppend
import Derived.Laws.IdiomCopy
import Derived.OrdersHeld
import Derived.Laws.BitsLemmas
import Derived.RowKit
import Derived.Test.YtijjopioamdahaaWWords
import Derived.Test.YtijjopioamdahaaWLast
import Derived.Test.YtijjopioamdahaaWTab
import Derived.Test.YtijjopioamdahaaWQPut
import Derived.Test.YtijjopioamdahaaWApart
import Derived.Test.YtijjopioamdahaaWArr
import Derived.Test.YtijjopioamdahaaWZeros
import Derived.Test.YtijjopioamdahaaWFoot
import Derived.Test.YtijjopioamdahaaWKept
import Derived.Test.YtijjopioamdahaaWShare
import Derived.Test.YtijjopioamdahaaWN
import Derived.Test.YtijjopioamdahaaWEqStruct
import Derived.Test.YtijjopioamdahaaWGuard
import Derived.Test.YtijjopioamdahaaWNEv
import Derived.Test.YtijjopioamdahaaWMore
import Derived.Test.YtijjopioamdahaaX1
import Derived.Test.YtijjopioamdahaaDgA
import Derived.Test.YtijjopioamdahaaDgB
import Derived.Test.YtijjopioamdahaaDgC
import Derived.Test.YtijjopioamdahaaDgD
import Derived.Test.YtijjopioamdahaaDgE
import Derived.Test.YtijjopioamdahaaDgF
import Derived.Test.YtijjopioamdahaaDgG
import Derived.Test.YtijjopioamdahaaDgH
import Derived.Test.YtijjopioamdahaaDgI
import Derived.Test.YtijjopioamdahaaDgJ
import Derived.Test.YtijjopioamdahaaDgL
import Derived.Test.YtijjopioamdahaaDgM
import Derived.DataShut
import Derived.Deep.RegionLawGrows
import Derived.Deep.Upon
import Derived.Deep.MidRow
namespace Go.Proofs.Ytijjopioamdahaa.D
open Go.RowKit Go.Proofs.Ytijjopioamdahaa.X Go.Proofs.YtijjopioamdahaaW.PrintWords Go.Proofs.YtijjopioamdahaaW.PrintLast Go.Proofs.YtijjopioamdahaaW.PrintMore
attribute [local go_sem] max2_int min2_int max_two min_two max_three min_three max_four min_four   -- for this text's walks alone
set_option linter.unusedVariables false
set_option linter.unusedSimpArgs false
theorem made22 (n : Nat) (h : n ≤ 1000000000000) (W : World) :
    (Instr.makeSlice 22 (.int .i64 (n : Int)) (.int .i64 (n : Int))).run Try.prog W = .ok (.slice (some ⟨W.heap.size, 0, none⟩) n n) (W.alloc (.cells (u8s (List.replicate n 0)) 5)) := by
  obtain ⟨i0, hi, hzz⟩ := Option.map_eq_some_iff.1 info5
  simp only [Prod.mk.injEq] at hzz
  obtain ⟨hz0, hz1, hz2⟩ := hzz
  have e := run_make (P := Try.prog) W 22 5 i0 (.int .u8 0) Try.underlying22 hi hz0 .i64 .i64 (n : Int) (n : Int) (by omega) (by omega) (by rw [hz2]; omega) (by omega)
  rw [hz1, Int.toNat_natCast, Nat.mul_one] at e
  have hc : madeCells (Value.int .u8 0).cells n = u8s (List.replicate n 0) := by
    apply Array.toList_inj.1
    rw [show (Value.int .u8 0).cells = #[Value.int .u8 0] from rfl, toList_madeCells_one]
    simp [u8s, nums]
  rw [hc] at e
  exact e
theorem C_row {W : World} {A : Option Addr} {n g : Nat} {xs : List Int} {cs : Array Value} (h : Kd.C (Kd.int .u8) W A n xs) (hne : ∀ a, A = some a → a.block ≠ g) : Kd.C (Kd.int .u8) (W.setRow g cs) A n xs := by
  have h2 := Kd.reads_of_C (enc := Value.int .u8) (d := (0 : Int)) (h1 := fun _ => rfl) h
  refine Kd.C_of_reads (enc := Value.int .u8) (d := (0 : Int)) (h1 := fun _ => rfl) ⟨h2.1, h2.2.1, fun hn => ?_⟩
  obtain ⟨ad, e, hc⟩ := h2.2.2 hn
  refine ⟨ad, e, fun j hj => ?_⟩
  rw [← hc j hj]
  refine World.cell?_of_block ?_
  refine setRow_other _ _ _ _ ?_
  have := hne ad e
  rw [show (ad.add j).block = ad.block from by cases j <;> rfl]
  exact this
theorem conv9 {W : World} {A : Option Addr} {n c : Nat} {xs : List Int} (h : Kd.C (Kd.int .u8) W A n xs) (hn : xs.length = n) : (convert 22 9 (.slice A n c)).run Try.prog W = .ok (.string (strOfNums xs)) W := by
  subst hn
  exact Kd.C_string Try.underlying22 Try.underlying5 Try.underlying9 h
theorem C_arrn {W : World} {g : Nat} {t : Nat} {l : List Int} {n : Nat} (h : W.heap[g]? = some (.cells (u8s l) t (0, 0))) (hn : l.length = n) (hl : n ≤ 9223372036854775807) : Kd.C (Kd.int .u8) W (some ⟨g, 0, none⟩) n l := by
  subst hn
  exact C_arr h hl
theorem wf64 {a : Int} (h : (Lit.int .i64 a).wf = true) : -9223372036854775808 ≤ a ∧ a ≤ 9223372036854775807 := by
  have := (Lit.wf_int_iff .i64 a).1 h
  simpa [IntKind.min, IntKind.max, IntKind.signed, IntKind.bits] using this
theorem wfu8 {a : Int} (h : (Lit.int .u8 a).wf = true) : 0 ≤ a ∧ a ≤ 255 := by
  have := (Lit.wf_int_iff .u8 a).1 h
  simpa [IntKind.min, IntKind.max, IntKind.signed, IntKind.bits] using this
theorem shan (A : Option Addr) (c n : Nat) (l : List Int) (w : World) (hn : l.length = n) (hr : Kd.C (Kd.int .u8) w A n l) (hc : n ≤ c) (hl : n ≤ 100000) (h8 : C.okB l) :
    Calls Try.prog 13 #[.slice A n c] w fun e w' => e = .returned (.agg (u8s (shaF l))) ∧ Below w.heap.size w w' := by
  subst hn
  exact sha_calls A c l w hr hc (by omega) h8
theorem refshan (A : Option Addr) (c n : Nat) (l : List Int) (w : World) (hn : l.length = n) (hr : Kd.C (Kd.int .u8) w A n l) (hc : n ≤ c) (hl : n ≤ 100000) (h8 : C.okB l) :
    Calls Try.prog 14 #[.slice A n c] w fun e w' => ∃ A' c', e = .returned (.slice A' 32 c') ∧ Kd.C (Kd.int .u8) w' A' 32 (shaF l) ∧ Below w.heap.size w w' := by
  subst hn
  refine (refsha_calls A c l w hr hc (by omega) h8).mono ?_
  rintro e w' ⟨v, rfl, hR, hb⟩
  obtain ⟨A', c', rfl, _, hC⟩ := Kd.R_reads hR
  rw [shaF_len] at hC ⊢
  exact ⟨A', c', rfl, hC, hb⟩
set_option maxHeartbeats 8000000 in
set_option maxRecDepth 100000 in
theorem ends_calls (a c : Int) (w : World) (ha : (Lit.int .i64 a).wf = true) (hc : (Lit.int .u8 c).wf = true) :
    Calls Try.prog 6 #[.int .i64 a, .int .u8 c] w fun e w' => e = .returned (.bool true) ∧ Below w.heap.size w w' := by
  obtain ⟨a0, a1⟩ := wf64 ha
  obtain ⟨c0, c1⟩ := wfu8 hc
  clear ha hc
  have I28 : Aside0 ((Try.prog.info? 28).map (·.size) = some 32) := ⟨by kernel_rfl⟩
  obtain ⟨q, hq⟩ : ∃ q : Int, (if (300 : Int) < a then 300 else a) = q := ⟨_, rfl⟩
  obtain ⟨m, hm⟩ : ∃ m : Nat, (if 0 < q then q else 0) = (m : Int) := ⟨(if 0 < q then q else 0).toNat, by split <;> omega⟩
  have hm3 : m ≤ 300 := by
    have : q ≤ 300 := by rw [← hq]; split <;> omega
    split at hm <;> omega
  have hm4 : (m : Int) ≤ 300 := by omega
  have hmk := made22 m (by omega)
  go_enter Try.func6, Try.ntmps6
  go_wp2
  clear hmk hq hm
  obtain ⟨gb, hgb⟩ : ∃ g, g = w.heap.size := ⟨_, rfl⟩
  obtain ⟨wE, hwE⟩ : ∃ W_, W_ = w.alloc (.cells (u8s (List.replicate m 0)) 5) := ⟨_, rfl⟩
  rw [← hgb, ← hwE]
  have E0 : Aside0 (wE.heap[gb]? = some (.cells (u8s (List.replicate m 0)) 5 (0, 0))) := ⟨by rw [hwE, hgb]; exact blk_new w _⟩
  have HB0 : Aside0 (Below w.heap.size w wE) := ⟨by rw [hwE]; exact below_alloc (Below.refl _ _) _⟩
  have GB := Aside0.mk (Nat.le_of_eq hgb.symm)
  clear hgb hwE
  go_loopw [15] (fun i wr => ∃ (k : Nat) (L : List Int), k ≤ m ∧ i = .int .i64 k ∧ Aside0 (L.length = m) ∧ Aside0 (C.okB L) ∧ Aside0 (wr.heap[gb]? = some (.cells (u8s L) 5 (0, 0))) ∧ Aside0 (Below w.heap.size w wr)) (fun i _ => m - (intOf i).toNat)
  case atStart => exact ⟨0, _, by omega, rfl, ⟨List.length_replicate⟩, ⟨fun x hx => by rw [List.eq_of_mem_replicate hx]; decide⟩, E0, HB0⟩
  case round =>
    clear E0 HB0
    obtain ⟨k, L, hk, rfl, HLL, H8, E0, HB⟩ := hrel
    by_cases hkm : k < m
    · have hx1 := (blk_cell E0.out k).trans (u8s_get L k (by rw [HLL.out]; exact hkm))
      have hf1 := blk_frozen E0.out k
      go_wp2
      go_roundw
      case rel =>
        refine ⟨k + 1, L.set k ((c + (k : Int)) % 256), hkm, by go_num, ⟨by rw [List.length_set]; exact HLL.out⟩, ⟨fun x hx => ?_⟩, ⟨?_⟩, ⟨below_set HB.out GB.out⟩⟩
        · rcases List.mem_or_eq_of_mem_set hx with hx | rfl
          · exact H8.out x hx
          · omega
        · have h := blk_set E0.out k (.int .u8 ((c + (k : Int)) % 256))
          rw [u8s_set] at h
          exact h
      case measure => simp [intOf]; omega
    · have HC0 := Aside0.mk (C_arrn E0.out HLL.out (by omega))
      have HM3 := Aside0.mk hm3
      have hgbl := blk_lt E0.out
      have HGL := Aside0.mk hgbl
      clear hgbl hm3 hm4 hk E0
      go_wp2_with (first | (go_at_call 13; refine (shan (some ⟨gb, 0, none⟩) m m L wr HLL.out HC0.out (Nat.le_refl _) (by have h_ := HM3.out; omega) H8.out).mono ?_; rintro e w1 ⟨rfl, hb⟩; have HB1 := Aside0.mk (below_step HB.out hb); have HC1 := Aside0.mk (Kd.C_below HC0.out hb); have HGL1 := Aside0.mk (show gb < w1.heap.size from by have h_ := HGL.out; have h2_ := hb.size; omega); clear hb) | ((with_reducible refine gate_dst (N := 7) rfl ?_); refine box_event ?hg (N := 7) ?hd (cs := u8s (List.replicate 32 0)) (t := 28) ?hr ?_; (case hd => rfl); (case hg => rfl); (case hr => exact alloc28 _ _ _ _ _ _); intro g2 hg2 wa hbox hba; have B2 := Aside0.mk hbox; have HBA := Aside0.mk (below_step HB1.out hba); have G2 := Aside0.mk (show w.heap.size ≤ g2 from by have h_ := HB1.out.size; omega); have HCA := Aside0.mk (Kd.C_below HC1.out hba); have NG2 := Aside0.mk (show gb ≠ g2 from by have h_ := HGL1.out; omega); clear hg2 hbox hba) | ((with_reducible refine gate_op (.store 28 (.tmp 7) (.tmp 27)) rfl ?_); refine wpList_store_row rfl 28 (.tmp 7) (.tmp 27) rfl g2 (by rfl) 28 (u8s (List.replicate 32 0)) (u8s (shaF L)) (by rfl) B2.out (by rw [u8s_size, shaF_len]; exact I28.out) (by rw [u8s_size, u8s_size, shaF_len]; rfl) (u8s_one _) ?_; have B3 := Aside0.mk (C_arr (setRow_heap _ _ _ (u8s (shaF L)) _ _ B2.out) (by rw [shaF_len]; decide)); have HB3 := Aside0.mk (below_row HBA.out G2.out (u8s (shaF L))); have HC3 := Aside0.mk (show Kd.C (Kd.int .u8) (World.setRow _ g2 (u8s (shaF L))) (some ⟨gb, 0, none⟩) m L from C_row HCA.out (fun a_ e_ => by injection e_ with e_; rw [← e_]; exact NG2.out)); (generalize hW_ : World.setRow _ g2 _ = w5 at B3 HB3 HC3 ⊢); clear hW_))
      have hsl := shaF_len L
      obtain ⟨s, hs⟩ : ∃ s, s = shaF L := ⟨_, rfl⟩
      rw [← hs] at B3 hsl
      rw [hsl] at B3
      obtain ⟨S0, hS0⟩ : ∃ S0, S0 = strOfNums s := ⟨_, rfl⟩
      have hv1 : ∀ W : World, Aside0 (Kd.C (Kd.int .u8) W (some ⟨g2, 0, none⟩) 32 s) → (convert 22 9 (.slice (some ⟨g2, 0, none⟩) 32 32)).run Try.prog W = .ok (.string S0) W := fun W h => by rw [hS0]; exact conv9 h.out hsl
      have hv2 : ∀ (A4 : Option Addr) (c4 : Nat) (W : World), Aside0 (Kd.C (Kd.int .u8) W A4 32 s) → (convert 22 9 (.slice A4 32 c4)).run Try.prog W = .ok (.string S0) W := fun A4 c4 W h => by rw [hS0]; exact conv9 h.out hsl
      have HV2 := Aside0.mk hv2
      have HS := Aside0.mk hs
      have HSL := Aside0.mk hsl
      clear hs hsl hS0 hv2
      refine start_ (n := 10) (S := fun w_ => Aside0 (Kd.C (Kd.int .u8) w_ (some ⟨g2, 0, none⟩) 32 s) ∧ Aside0 (Kd.C (Kd.int .u8) w_ (some ⟨gb, 0, none⟩) m L) ∧ Aside0 (Below w.heap.size w w_)) (ds := []) #[false, false, false, false, false, false, false, false, false, false] (by kernel_rfl) rfl rfl ⟨⟨Kd.C_drew B3.out⟩, ⟨Kd.C_drew HC3.out⟩, ⟨below_drew1 HB3.out⟩⟩ (fun hHeld => ?_)
      refine pure_ (i := 0) (N := some 28) (v := ?_) (a' := ?_) #[true, false, false, false, false, false, false, false, false, false] rfl rfl (by kernel_rfl) (fun _ _ _ h => h) (Or.inl ⟨by rfl, ?_⟩) ?_ ?_
      rotate_left
      · intro w'
        go_simp
        with_reducible rfl
      rotate_left
      · simp only [Act.put, List.setIfInBounds_toArray, List.set_cons_zero, List.set_cons_succ, i64_w, i32_w]
        rfl
      refine take_ (i := 1) (N := some 29) (v := ?_) (a' := ?_) #[true, true, false, false, false, false, false, false, false, false] rfl rfl (by kernel_rfl) (fun _ _ _ h => h) (Or.inl ⟨by rfl, ?_⟩) hHeld ?_ ?_
      rotate_left
      · rintro w' ⟨hs0_, hs1_, hs2_⟩
        go_simp
        with_reducible rfl
      rotate_left
      · simp only [Act.put, List.setIfInBounds_toArray, List.set_cons_zero, List.set_cons_succ, i64_w, i32_w]
        rfl
      refine pure_ (i := 2) (N := some 30) (v := ?_) (a' := ?_) #[true, true, true, false, false, false, false, false, false, false] rfl rfl (by kernel_rfl) (fun _ _ _ h => h) (Or.inl ⟨by rfl, ?_⟩) ?_ ?_
      rotate_left
      · intro w'
        go_simp
        with_reducible rfl
      rotate_left
      · simp only [Act.put, List.setIfInBounds_toArray, List.set_cons_zero, List.set_cons_succ, i64_w, i32_w]
        rfl
      refine one_ (i := 3) (N := some 31) #[true, true, true, true, false, false, false, false, false, false] rfl rfl (by kernel_rfl) (by decide) (fun K hK => ?_)
      refine goes_ Try.func14 (by kernel_rfl) rfl #[.slice (some ⟨gb, 0, none⟩) m m] (by rfl) rfl rfl (by first | rfl | (simp only [List.map_toArray, List.map_cons, List.map_nil]; done) | (simp only [List.map_toArray, List.map_cons, List.map_nil]; rfl)) ?_
      refine (refshan (some ⟨gb, 0, none⟩) m m L _ HLL.out hHeld.2.1.out (Nat.le_refl _) (by have h_ := HM3.out; omega) H8.out).mono ?_
      rw [← HS.out]; rintro e w6 ⟨A4, c4, rfl, hC4, hb⟩; have hv3 := HV2.out A4 c4 w6 ⟨hC4⟩; clear hC4
      refine ⟨_, rfl, ?_⟩
      refine hK.out _ _ ⟨⟨Kd.C_below hHeld.1.out hb⟩, ⟨Kd.C_below hHeld.2.1.out hb⟩, ⟨below_step hHeld.2.2.out hb⟩⟩ (fun hHeld => ?_)
      clear hK K
      refine norm_ (a' := ?_) ?_ ?_
      rotate_left
      · show Act.put _ (some 31) _ = _
        simp only [Act.put, List.setIfInBounds_toArray, List.set_cons_zero, List.set_cons_succ, i64_w, i32_w]
        rfl
      refine one_ (i := 4) (N := some 32) #[true, true, true, true, true, false, false, false, false, false] rfl rfl (by kernel_rfl) (by decide) (fun K hK => ?_)
      rw [if_pos (by rfl)]
      go_simp
      refine hK.out _ _ hHeld (fun hHeld => ?_)
      clear hK K
      refine pure_ (i := 5) (N := some 33) (v := ?_) (a' := ?_) #[true, true, true, true, true, true, false, false, false, false] rfl rfl (by kernel_rfl) (fun _ _ _ h => h) (Or.inl ⟨by rfl, ?_⟩) ?_ ?_
      rotate_left
      · intro w'
        go_simp
        with_reducible rfl
      rotate_left
      · simp only [Act.put, List.setIfInBounds_toArray, List.set_cons_zero, List.set_cons_succ, i64_w, i32_w]
        rfl
      refine pure_ (i := 6) (N := some 34) (v := ?_) (a' := ?_) #[true, true, true, true, true, true, true, false, false, false] rfl rfl (by kernel_rfl) (fun _ _ _ h => h) (Or.inl ⟨by rfl, ?_⟩) ?_ ?_
      rotate_left
      · intro w'
        go_simp
        with_reducible rfl
      rotate_left
      · simp only [Act.put, List.setIfInBounds_toArray, List.set_cons_zero, List.set_cons_succ, i64_w, i32_w]
        rfl
      refine one_ (i := 7) (N := some 35) #[true, true, true, true, true, true, true, true, false, false] rfl rfl (by kernel_rfl) (by decide) (fun K hK => ?_)
      refine goes_ Try.func12 (by kernel_rfl) rfl #[] (by rfl) rfl rfl (by first | rfl | (simp only [List.map_toArray, List.map_cons, List.map_nil]; done) | (simp only [List.map_toArray, List.map_cons, List.map_nil]; rfl)) ?_
      refine (lives_calls _).mono ?_
      rintro e w9 ⟨rfl, hb⟩
      refine ⟨_, rfl, ?_⟩
      refine hK.out _ _ ⟨⟨Kd.C_below hHeld.1.out hb⟩, ⟨Kd.C_below hHeld.2.1.out hb⟩, ⟨below_step hHeld.2.2.out hb⟩⟩ (fun hHeld => ?_)
      clear hK K
      refine norm_ (a' := ?_) ?_ ?_
      rotate_left
      · show Act.put _ (some 35) _ = _
        simp only [Act.put, List.setIfInBounds_toArray, List.set_cons_zero, List.set_cons_succ, i64_w, i32_w]
        rfl
      refine pure_ (i := 8) (N := some 36) (v := ?_) (a' := ?_) #[true, true, true, true, true, true, true, true, true, false] rfl rfl (by kernel_rfl) (fun _ _ _ h => h) (Or.inl ⟨by rfl, ?_⟩) ?_ ?_
      rotate_left
      · intro w'
        go_simp
        with_reducible rfl
      rotate_left
      · simp only [Act.put, List.setIfInBounds_toArray, List.set_cons_zero, List.set_cons_succ, i64_w, i32_w]
        rfl
      refine pure_ (i := 9) (N := some 4) (v := ?_) (a' := ?_) #[true, true, true, true, true, true, true, true, true, true] rfl rfl (by kernel_rfl) (fun _ _ _ h => h) (Or.inl ⟨by rfl, ?_⟩) ?_ ?_
      rotate_left
      · intro w'
        go_simp
        with_reducible rfl
      rotate_left
      · simp only [Act.put, List.setIfInBounds_toArray, List.set_cons_zero, List.set_cons_succ, i64_w, i32_w]
        rfl
      refine done_ (by kernel_rfl) ?_
      go_wp2
      go_ret
      exact ⟨rfl, hHeld.2.2.out⟩

end Go.Proofs.Ytijjopioamdahaa.D
