/- SHA-256 of any bytes, and its digits: the law's walk. -/
import Derived.Test.YtijjopioamdahaaProg
import Derived.Below
import Derived.Deep.Draws
import Derived.Deep.AppendLies
import Derived.Maps.AppendAt
import Derived.OwnWalk
import Derived.Laws.BytesArg
import Derived.Laws.MakeOwn
import Derived.Laws.OwnMore
import Derived.Deep.OwnRows
import Derived.Tactics
import Derived.Lib.ConvBytes
import Derived.Laws.Slices
import Derived.WalkKit
import Derived.KernelRfl
import Derived.RowKit3
import Derived.Deep.LoopGhost
import Derived.Deep.QuietTactic
import Derived.BigQuiet
import Derived.WideLaws
import Derived.Deep.DeepCutAuto
import Derived.Deep.CutBlock
import Derived.Deep.RegionHeld3
import Derived.Laws.Rows
import Derived.Lib.AppendStr
import Derived.ArgAppend
import Derived.Laws.IdiomCopy
import Derived.OrdersHeld
import Derived.Laws.BitsLemmas
import Derived.RowKit
import Derived.Test.YtijjopioamdahaaWWords
import Derived.Test.YtijjopioamdahaaWLast
import Derived.Test.YtijjopioamdahaaWTab
import Derived.Test.YtijjopioamdahaaWQPut
import Derived.Test.YtijjopioamdahaaWApart
import Derived.Test.YtijjopioamdahaaWArr
import Derived.Test.YtijjopioamdahaaWZeros
import Derived.Test.YtijjopioamdahaaWFoot
import Derived.Test.YtijjopioamdahaaWKept
import Derived.Test.YtijjopioamdahaaWShare
import Derived.Test.YtijjopioamdahaaWN
import Derived.Test.YtijjopioamdahaaWEqStruct
import Derived.Test.YtijjopioamdahaaWGuard
import Derived.Test.YtijjopioamdahaaWNEv
import Derived.Test.YtijjopioamdahaaWMore
import Derived.Test.YtijjopioamdahaaX1
import Derived.Test.YtijjopioamdahaaDgA
import Derived.Test.YtijjopioamdahaaDgB
import Derived.Test.YtijjopioamdahaaDgC
import Derived.Test.YtijjopioamdahaaDgD
import Derived.Test.YtijjopioamdahaaDgE
import Derived.Test.YtijjopioamdahaaDgF
import Derived.Test.YtijjopioamdahaaDgG
import Derived.Test.YtijjopioamdahaaDgH
import Derived.Test.YtijjopioamdahaaDgI
import Derived.Test.YtijjopioamdahaaDgJ
import Derived.Test.YtijjopioamdahaaDgL
import Derived.Test.YtijjopioamdahaaDgM
import Derived.Test.YtijjopioamdahaaX3
import Derived.DataShut
import Derived.Deep.RegionLawGrows
import Derived.Deep.Upon
import Derived.Deep.MidRow
namespace Go.Proofs.Ytijjopioamdahaa.D
open Go.RowKit Go.Proofs.Ytijjopioamdahaa.X Go.Proofs.YtijjopioamdahaaW.PrintWords Go.Proofs.YtijjopioamdahaaW.PrintLast Go.Proofs.YtijjopioamdahaaW.PrintMore
attribute [local go_sem] max2_int min2_int max_two min_two max_three min_three max_four min_four   -- for this text's walks alone
set_option linter.unusedVariables false
set_option linter.unusedSimpArgs false
theorem conv9 {W : World} {A : Option Addr} {n c : Nat} {xs : List Int} (h : Kd.C (Kd.int .u8) W A n xs) (hn : xs.length = n) : (convert 22 9 (.slice A n c)).run Try.prog W = .ok (.string (strOfNums xs)) W := by
  subst hn
  exact Kd.C_string Try.underlying22 Try.underlying5 Try.underlying9 h
theorem hex32 (A : Option Addr) (c : Nat) (s : List Int) (r : ByteArray) (w : World) (hl : s.length = 32) (h : Kd.C (Kd.int .u8) w A 32 s) (hc : 32 ≤ c) (hf : brazierref01_Hex.f s = some r) :
    Calls Try.prog 16 #[.slice A 32 c] w fun e w' => e = .returned (.string r) ∧ Below w.heap.size w w' := by
  have h_ := brazierref01_Hex.calls A c s r w (by rw [hl]; exact h) (by rw [hl]; exact hc) hf
  rw [hl] at h_
  exact h_
set_option maxHeartbeats 8000000 in
set_option maxRecDepth 100000 in
theorem shas_calls (A : Option Addr) (c : Nat) (l : List Int) (w : World) (hr : Kd.C (Kd.int .u8) w A l.length l) (hc : l.length ≤ c) (h8 : ∀ y ∈ l, (Lit.int .u8 y).wf = true) :
    Calls Try.prog 4 #[.slice A l.length c] w fun e w' => e = .returned (.bool true) ∧ Below w.heap.size w w' := by
  have HC := Aside0.mk hc
  have HCR := Aside0.mk (C_cut hr)
  have HCC := Aside0.mk (show (cutL l).length ≤ c by have := (cutL_len l).2; omega)
  have HLB := Aside0.mk (cutL_len l).1
  have H8 := Aside0.mk (okB_cut (okB_wf h8))
  have I28 : Aside0 ((Try.prog.info? 28).map (·.size) = some 32) := ⟨by kernel_rfl⟩
  clear hr hc h8
  generalize hb : cutL l = b at HCR HCC HLB H8
  have HB_ := Aside0.mk hb
  clear hb
  go_enter Try.func4, Try.ntmps4
  go_wp2_with (first | (go_at_call 9; with_reducible refine (cut_calls2 A c l _ HC.out).mono ?_; rintro e w' ⟨rfl, rfl⟩; rw [HB_.out]) | (go_at_call 13; refine (sha_calls A c b w HCR.out HCC.out (by have h_ := HLB.out; omega) H8.out).mono ?_; rintro e w1 ⟨rfl, hb⟩; have HB1 := Aside0.mk hb; clear hb) | ((with_reducible refine gate_dst (N := 3) rfl ?_); refine box_event ?hg (N := 3) ?hd (cs := u8s (List.replicate 32 0)) (t := 28) ?hr ?_; (case hd => rfl); (case hg => rfl); (case hr => exact alloc28 _ _ _ _ _ _); intro g2 hg2 wa hbox hba; have B2 := Aside0.mk hbox; have HBA := Aside0.mk (below_step HB1.out hba); have G2 := Aside0.mk (show w.heap.size ≤ g2 from by have h_ := HB1.out.size; omega); clear hg2 hbox hba) | ((with_reducible refine gate_op (.store 28 (.tmp 3) (.tmp 8)) rfl ?_); refine wpList_store_row rfl 28 (.tmp 3) (.tmp 8) rfl g2 (by rfl) 28 (u8s (List.replicate 32 0)) (u8s (shaF b)) (by rfl) B2.out (by rw [u8s_size, shaF_len]; exact I28.out) (by rw [u8s_size, u8s_size, shaF_len]; rfl) (u8s_one _) ?_; have B3 := Aside0.mk (C_arr (setRow_heap _ _ _ (u8s (shaF b)) _ _ B2.out) (by rw [shaF_len]; decide)); have HB3 := Aside0.mk (below_row HBA.out G2.out (u8s (shaF b))); (generalize hW_ : World.setRow _ g2 _ = w5 at B3 HB3 ⊢); clear hW_) | (go_at_call 14; refine (refsha_calls A c b w5 (Kd.C_below HCR.out HB3.out) HCC.out (by have h_ := HLB.out; omega) H8.out).mono ?_; rintro e w6 ⟨v, rfl, hR, hb⟩; obtain ⟨A4, c4, rfl, hc4, hC4⟩ := Kd.R_reads hR; have B4 := Aside0.mk (Kd.C_below B3.out hb); have C4 := Aside0.mk hC4; have CC4 := Aside0.mk hc4; have HB4 := Aside0.mk (below_step HB3.out hb); clear hR hb hc4 hC4))
  have hsl := shaF_len b
  obtain ⟨s, hs⟩ : ∃ s, s = shaF b := ⟨_, rfl⟩
  have hnm : nameF b = strOfNums (hexL s) := by rw [hs]; rfl
  have hs8 : byteB s = true := by rw [hs]; exact shaF_8 b
  rw [← hs] at B4 C4 CC4 hsl ⊢
  rw [hsl] at B4 C4 CC4 ⊢
  obtain ⟨S0, hS0⟩ : ∃ S0, S0 = strOfNums s := ⟨_, rfl⟩
  obtain ⟨N0, hN0⟩ : ∃ N0, N0 = strOfNums (hexL s) := ⟨_, rfl⟩
  rw [← hN0] at hnm
  have hv1 : ∀ W : World, Aside0 (Kd.C (Kd.int .u8) W (some ⟨g2, 0, none⟩) 32 s) → (convert 22 9 (.slice (some ⟨g2, 0, none⟩) 32 32)).run Try.prog W = .ok (.string S0) W := fun W h => by rw [hS0]; exact conv9 h.out hsl
  have hv2 : ∀ W : World, Aside0 (Kd.C (Kd.int .u8) W A4 32 s) → (convert 22 9 (.slice A4 32 c4)).run Try.prog W = .ok (.string S0) W := fun W h => by rw [hS0]; exact conv9 h.out hsl
  have hhx : brazierref01_Hex.f s = some N0 := by unfold brazierref01_Hex.f; rw [if_pos ⟨hs8, by rw [hsl]; decide⟩, hN0]
  have HS := Aside0.mk hs
  have HSL := Aside0.mk hsl
  have HNM := Aside0.mk hnm
  have HHX := Aside0.mk hhx
  have HCR6 : Aside0 (Kd.C (Kd.int .u8) w6 A b.length b) := ⟨Kd.C_below HCR.out HB4.out⟩
  clear hs hsl hs8 hS0 hN0 hnm hhx
  refine start_ (n := 16) (S := fun w_ => Aside0 (Kd.C (Kd.int .u8) w_ (some ⟨g2, 0, none⟩) 32 s) ∧ Aside0 (Kd.C (Kd.int .u8) w_ A4 32 s) ∧ Aside0 (Kd.C (Kd.int .u8) w_ A b.length b) ∧ Aside0 (Below w.heap.size w w_)) (ds := []) #[false, false, false, false, false, false, false, false, false, false, false, false, false, false, false, false] (by kernel_rfl) rfl rfl ⟨⟨Kd.C_drew B4.out⟩, ⟨Kd.C_drew C4.out⟩, ⟨Kd.C_drew HCR6.out⟩, ⟨below_drew1 HB4.out⟩⟩ (fun hHeld => ?_)
  refine pure_ (i := 0) (N := some 11) (v := ?_) (a' := ?_) #[true, false, false, false, false, false, false, false, false, false, false, false, false, false, false, false] rfl rfl (by kernel_rfl) (fun _ _ _ h => h) (Or.inl ⟨by rfl, ?_⟩) ?_ ?_
  rotate_left
  · intro w'
    go_simp
    with_reducible rfl
  rotate_left
  · simp only [Act.put, List.setIfInBounds_toArray, List.set_cons_zero, List.set_cons_succ, i64_w, i32_w]
    rfl
  refine take_ (i := 1) (N := some 12) (v := ?_) (a' := ?_) #[true, true, false, false, false, false, false, false, false, false, false, false, false, false, false, false] rfl rfl (by kernel_rfl) (fun _ _ _ h => h) (Or.inl ⟨by rfl, ?_⟩) hHeld ?_ ?_
  rotate_left
  · rintro w' ⟨hs0_, hs1_, hs2_, hs3_⟩
    go_simp
    with_reducible rfl
  rotate_left
  · simp only [Act.put, List.setIfInBounds_toArray, List.set_cons_zero, List.set_cons_succ, i64_w, i32_w]
    rfl
  refine pure_ (i := 2) (N := some 13) (v := ?_) (a' := ?_) #[true, true, true, false, false, false, false, false, false, false, false, false, false, false, false, false] rfl rfl (by kernel_rfl) (fun _ _ _ h => h) (Or.inl ⟨by rfl, ?_⟩) ?_ ?_
  rotate_left
  · intro w'
    go_simp
    with_reducible rfl
  rotate_left
  · simp only [Act.put, List.setIfInBounds_toArray, List.set_cons_zero, List.set_cons_succ, i64_w, i32_w]
    rfl
  refine take_ (i := 3) (N := some 14) (v := ?_) (a' := ?_) #[true, true, true, true, false, false, false, false, false, false, false, false, false, false, false, false] rfl rfl (by kernel_rfl) (fun _ _ _ h => h) (Or.inl ⟨by rfl, ?_⟩) hHeld ?_ ?_
  rotate_left
  · rintro w' ⟨hs0_, hs1_, hs2_, hs3_⟩
    go_simp
    with_reducible rfl
  rotate_left
  · simp only [Act.put, List.setIfInBounds_toArray, List.set_cons_zero, List.set_cons_succ, i64_w, i32_w]
    rfl
  refine pure_ (i := 4) (N := some 15) (v := ?_) (a' := ?_) #[true, true, true, true, true, false, false, false, false, false, false, false, false, false, false, false] rfl rfl (by kernel_rfl) (fun _ _ _ h => h) (Or.inl ⟨by rfl, ?_⟩) ?_ ?_
  rotate_left
  · intro w'
    go_simp
    with_reducible rfl
  rotate_left
  · simp only [Act.put, List.setIfInBounds_toArray, List.set_cons_zero, List.set_cons_succ, i64_w, i32_w]
    rfl
  refine pure_ (i := 5) (N := some 16) (v := ?_) (a' := ?_) #[true, true, true, true, true, true, false, false, false, false, false, false, false, false, false, false] rfl rfl (by kernel_rfl) (fun _ _ _ h => h) (Or.inl ⟨by rfl, ?_⟩) ?_ ?_
  rotate_left
  · intro w'
    go_simp
    with_reducible rfl
  rotate_left
  · simp only [Act.put, List.setIfInBounds_toArray, List.set_cons_zero, List.set_cons_succ, i64_w, i32_w]
    rfl
  refine pure_ (i := 6) (N := some 17) (v := ?_) (a' := ?_) #[true, true, true, true, true, true, true, false, false, false, false, false, false, false, false, false] rfl rfl (by kernel_rfl) (fun _ _ _ h => h) (Or.inl ⟨by rfl, ?_⟩) ?_ ?_
  rotate_left
  · intro w'
    go_simp
    with_reducible rfl
  rotate_left
  · simp only [Act.put, List.setIfInBounds_toArray, List.set_cons_zero, List.set_cons_succ, i64_w, i32_w]
    rfl
  refine pure_ (i := 8) (N := some 19) (v := ?_) (a' := ?_) #[true, true, true, true, true, true, true, false, true, false, false, false, false, false, false, false] rfl rfl (by kernel_rfl) (fun _ _ _ h => h) (Or.inl ⟨by rfl, ?_⟩) ?_ ?_
  rotate_left
  · intro w'
    go_simp
    with_reducible rfl
  rotate_left
  · simp only [Act.put, List.setIfInBounds_toArray, List.set_cons_zero, List.set_cons_succ, i64_w, i32_w]
    rfl
  refine one_ (i := 7) (N := some 18) #[true, true, true, true, true, true, true, true, true, false, false, false, false, false, false, false] rfl rfl (by kernel_rfl) (by decide) (fun K hK => ?_)
  refine goes_ Try.func15 (by kernel_rfl) rfl #[.slice A b.length c] (by rfl) rfl rfl (by first | rfl | (simp only [List.map_toArray, List.map_cons, List.map_nil]; done) | (simp only [List.map_toArray, List.map_cons, List.map_nil]; rfl)) ?_
  refine (name_calls A c b _ hHeld.2.2.1.out HCC.out (by have h_ := HLB.out; omega) H8.out).mono ?_
  rw [HNM.out]; rintro e w7 ⟨rfl, hb⟩
  refine ⟨_, rfl, ?_⟩
  refine hK.out _ _ ⟨⟨Kd.C_below hHeld.1.out hb⟩, ⟨Kd.C_below hHeld.2.1.out hb⟩, ⟨Kd.C_below hHeld.2.2.1.out hb⟩, ⟨below_step hHeld.2.2.2.out hb⟩⟩ (fun hHeld => ?_)
  clear hK K
  refine norm_ (a' := ?_) ?_ ?_
  rotate_left
  · show Act.put _ (some 18) _ = _
    simp only [Act.put, List.setIfInBounds_toArray, List.set_cons_zero, List.set_cons_succ, i64_w, i32_w]
    rfl
  refine one_ (i := 9) (N := some 20) #[true, true, true, true, true, true, true, true, true, true, false, false, false, false, false, false] rfl rfl (by kernel_rfl) (by decide) (fun K hK => ?_)
  refine goes_ Try.func16 (by kernel_rfl) rfl #[.slice A4 32 c4] (by rfl) rfl rfl (by first | rfl | (simp only [List.map_toArray, List.map_cons, List.map_nil]; done) | (simp only [List.map_toArray, List.map_cons, List.map_nil]; rfl)) ?_
  refine (hex32 A4 c4 s N0 _ HSL.out hHeld.2.1.out CC4.out HHX.out).mono ?_
  rintro e w8 ⟨rfl, hb⟩
  refine ⟨_, rfl, ?_⟩
  refine hK.out _ _ ⟨⟨Kd.C_below hHeld.1.out hb⟩, ⟨Kd.C_below hHeld.2.1.out hb⟩, ⟨Kd.C_below hHeld.2.2.1.out hb⟩, ⟨below_step hHeld.2.2.2.out hb⟩⟩ (fun hHeld => ?_)
  clear hK K
  refine norm_ (a' := ?_) ?_ ?_
  rotate_left
  · show Act.put _ (some 20) _ = _
    simp only [Act.put, List.setIfInBounds_toArray, List.set_cons_zero, List.set_cons_succ, i64_w, i32_w]
    rfl
  refine pure_ (i := 10) (N := some 21) (v := ?_) (a' := ?_) #[true, true, true, true, true, true, true, true, true, true, true, false, false, false, false, false] rfl rfl (by kernel_rfl) (fun _ _ _ h => h) (Or.inl ⟨by rfl, ?_⟩) ?_ ?_
  rotate_left
  · intro w'
    go_simp
    with_reducible rfl
  rotate_left
  · simp only [Act.put, List.setIfInBounds_toArray, List.set_cons_zero, List.set_cons_succ, i64_w, i32_w]
    rfl
  refine pure_ (i := 11) (N := some 22) (v := ?_) (a' := ?_) #[true, true, true, true, true, true, true, true, true, true, true, true, false, false, false, false] rfl rfl (by kernel_rfl) (fun _ _ _ h => h) (Or.inl ⟨by rfl, ?_⟩) ?_ ?_
  rotate_left
  · intro w'
    go_simp
    with_reducible rfl
  rotate_left
  · simp only [Act.put, List.setIfInBounds_toArray, List.set_cons_zero, List.set_cons_succ, i64_w, i32_w]
    rfl
  refine pure_ (i := 12) (N := some 23) (v := ?_) (a' := ?_) #[true, true, true, true, true, true, true, true, true, true, true, true, true, false, false, false] rfl rfl (by kernel_rfl) (fun _ _ _ h => h) (Or.inl ⟨by rfl, ?_⟩) ?_ ?_
  rotate_left
  · intro w'
    go_simp
    with_reducible rfl
  rotate_left
  · simp only [Act.put, List.setIfInBounds_toArray, List.set_cons_zero, List.set_cons_succ, i64_w, i32_w]
    rfl
  refine one_ (i := 13) (N := some 24) #[true, true, true, true, true, true, true, true, true, true, true, true, true, true, false, false] rfl rfl (by kernel_rfl) (by decide) (fun K hK => ?_)
  refine goes_ Try.func12 (by kernel_rfl) rfl #[] (by rfl) rfl rfl (by first | rfl | (simp only [List.map_toArray, List.map_cons, List.map_nil]; done) | (simp only [List.map_toArray, List.map_cons, List.map_nil]; rfl)) ?_
  refine (lives_calls _).mono ?_
  rintro e w9 ⟨rfl, hb⟩
  refine ⟨_, rfl, ?_⟩
  refine hK.out _ _ ⟨⟨Kd.C_below hHeld.1.out hb⟩, ⟨Kd.C_below hHeld.2.1.out hb⟩, ⟨Kd.C_below hHeld.2.2.1.out hb⟩, ⟨below_step hHeld.2.2.2.out hb⟩⟩ (fun hHeld => ?_)
  clear hK K
  refine norm_ (a' := ?_) ?_ ?_
  rotate_left
  · show Act.put _ (some 24) _ = _
    simp only [Act.put, List.setIfInBounds_toArray, List.set_cons_zero, List.set_cons_succ, i64_w, i32_w]
    rfl
  refine pure_ (i := 14) (N := some 25) (v := ?_) (a' := ?_) #[true, true, true, true, true, true, true, true, true, true, true, true, true, true, true, false] rfl rfl (by kernel_rfl) (fun _ _ _ h => h) (Or.inl ⟨by rfl, ?_⟩) ?_ ?_
  rotate_left
  · intro w'
    go_simp
    with_reducible rfl
  rotate_left
  · simp only [Act.put, List.setIfInBounds_toArray, List.set_cons_zero, List.set_cons_succ, i64_w, i32_w]
    rfl
  refine pure_ (i := 15) (N := some 2) (v := ?_) (a' := ?_) #[true, true, true, true, true, true, true, true, true, true, true, true, true, true, true, true] rfl rfl (by kernel_rfl) (fun _ _ _ h => h) (Or.inl ⟨by rfl, ?_⟩) ?_ ?_
  rotate_left
  · intro w'
    go_simp
    with_reducible rfl
  rotate_left
  · simp only [Act.put, List.setIfInBounds_toArray, List.set_cons_zero, List.set_cons_succ, i64_w, i32_w]
    rfl
  refine done_ (by kernel_rfl) ?_
  go_wp2
  go_ret
  exact ⟨rfl, hHeld.2.2.2.out⟩

end Go.Proofs.Ytijjopioamdahaa.D
