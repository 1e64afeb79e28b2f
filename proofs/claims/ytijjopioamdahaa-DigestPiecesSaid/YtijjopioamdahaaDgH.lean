/- SHA-256 of any bytes, and its digits: the walks; at most 10^8 bytes. -/
import Derived.Test.YtijjopioamdahaaProg
import Derived.Below
import Derived.Deep.Draws
import Derived.Deep.AppendLies
import Derived.Maps.AppendAt
import Derived.OwnWalk
import Derived.Laws.BytesArg
import Derived.Laws.MakeOwn
import Derived.Laws.OwnMore
import Derived.Deep.OwnRows
import Derived.Tactics
import Derived.Lib.ConvBytes
import Derived.Laws.Slices
import Derived.WalkKit
import Derived.KernelRfl
import Derived.RowKit3
import Derived.Deep.LoopGhost
import Derived.Deep.QuietTactic
import Derived.BigQuiet
import Derived.WideLaws
import Derived.Deep.DeepCutAuto
import Derived.Deep.CutBlock
import Derived.Deep.RegionHeld3
import Derived.Laws.Rows
import Derived.Lib.AppendStr
import Derived.ArgAppend
import Derived.Laws.IdiomCopy
import Derived.OrdersHeld
import Derived.Laws.BitsLemmas
import Derived.RowKit
import Derived.Test.YtijjopioamdahaaWWords
import Derived.Test.YtijjopioamdahaaWLast
import Derived.Test.YtijjopioamdahaaWTab
import Derived.Test.YtijjopioamdahaaWQPut
import Derived.Test.YtijjopioamdahaaWApart
import Derived.Test.YtijjopioamdahaaWArr
import Derived.Test.YtijjopioamdahaaWZeros
import Derived.Test.YtijjopioamdahaaWFoot
import Derived.Test.YtijjopioamdahaaWKept
import Derived.Test.YtijjopioamdahaaWShare
import Derived.Test.YtijjopioamdahaaWN
import Derived.Test.YtijjopioamdahaaWEqStruct
import Derived.Test.YtijjopioamdahaaWGuard
import Derived.Test.YtijjopioamdahaaWNEv
import Derived.Test.YtijjopioamdahaaWMore
import Derived.Test.YtijjopioamdahaaX1
import Derived.Test.YtijjopioamdahaaDgA
import Derived.Test.YtijjopioamdahaaDgB
import Derived.Test.YtijjopioamdahaaDgC
import Derived.Test.YtijjopioamdahaaDgD
import Derived.Test.YtijjopioamdahaaDgE
import Derived.Test.YtijjopioamdahaaDgF
import Derived.Test.YtijjopioamdahaaDgG
import Derived.Deep.RegionLawGrows
import Derived.Deep.Upon
import Derived.Deep.MidRow
namespace Go.Proofs.Ytijjopioamdahaa.D
open Go.RowKit Go.Proofs.Ytijjopioamdahaa.X Go.Proofs.YtijjopioamdahaaW.PrintWords Go.Proofs.YtijjopioamdahaaW.PrintLast Go.Proofs.YtijjopioamdahaaW.PrintMore
attribute [local go_sem] max2_int min2_int max_two min_two max_three min_three max_four min_four   -- for this text's walks alone
set_option linter.unusedVariables false
set_option linter.unusedSimpArgs false
def shaF (l : List Int) : List Int := sumF (blkN START l (l.length / 64)) (l.drop (64 * (l.length / 64))) (l.length : Int)
theorem sumF_len (S xs : List Int) (n : Int) : (sumF S xs n).length = 32 := outF_len _ _
theorem shaF_len (l : List Int) : (shaF l).length = 32 := sumF_len _ _ _
set_option maxHeartbeats 4000000 in
set_option maxRecDepth 100000 in
theorem sha_calls (A : Option Addr) (c : Nat) (l : List Int) (w : World) (hr : Kd.C (Kd.int .u8) w A l.length l) (hc : l.length ≤ c) (hl : l.length ≤ 100000000) (h8 : ∀ x ∈ l, 0 ≤ x ∧ x ≤ 255) :
    Calls Try.prog 13 #[.slice A l.length c] w fun e w' => e = .returned (.agg (u8s (shaF l))) ∧ Below w.heap.size w w' := by
  have HR := Aside0.mk hr
  have HC := Aside0.mk hc
  have HL := Aside0.mk hl
  have H8 := Aside0.mk h8
  have I28 : Aside0 ((Try.prog.info? 28).map (·.size) = some 32) := ⟨by kernel_rfl⟩
  clear hr hc hl h8
  go_enter Try.func13, Try.ntmps13
  go_wp2_with (first | ((with_reducible refine gate_dst (N := 2) rfl ?_); refine box_event ?hg (N := 2) ?hd (cs := u8s (List.replicate 32 0)) (t := 28) ?hr ?_; (case hd => rfl); (case hg => rfl); (case hr => exact alloc28 _ _ _ _ _ _); intro g2 hg2 wa hbox hba; have B2 := Aside0.mk hbox; have HBA := Aside0.mk hba; have G2 := Aside0.mk (show w.heap.size ≤ g2 from by omega); clear hg2 hbox hba) | (go_at_call 18; refine (new_calls _).mono ?_; rintro e w1 ⟨g, rfl, hg, hgw, hb⟩; have HG := Aside0.mk hg; have GW := Aside0.mk hgw; have HB1 := Aside0.mk (below_step HBA.out hb); have B21 := Aside0.mk (blk_below B2.out hb); have NG := Aside0.mk (show g2 ≠ g from by have h_ := blk_lt B2.out; omega); clear hg hgw hb) | (go_at_call 19; refine (add_calls g START none 0 [] 0 A c l w1 rfl HG.out (Kd.C_nil _ _) (Nat.le_refl _) (Kd.C_below HR.out HB1.out) HC.out HL.out (by decide) (by decide) (by intro x hx; cases hx) H8.out).mono ?_; rintro e w2 ⟨rfl, A3, c3, hg2, hC2, hcc2, hgr2⟩; have B22 := Aside0.mk ((hgr2.block g2 (blk_lt B21.out) (by have h_ := NG.out; intro e_; injection e_ with e_; exact h_ e_)).trans B21.out); have HB2 := Aside0.mk (Below.grown HB1.out hgr2 HB1.out.size (by intro k_ e_; injection e_ with e_; rw [← e_]; have h_ := GW.out; have h2_ := HBA.out.size; omega)); have HG2 := Aside0.mk hg2; have HC2 := Aside0.mk hC2; have HCC2 := Aside0.mk hcc2; clear hg2 hC2 hcc2 hgr2) | (go_at_call 20; refine (sum_calls g (blkN START l (l.length / 64)) A3 c3 (l.drop (64 * (l.length / 64))) (l.length : Int) w2 (blkN_len _ _ rfl _) (by have h_ := HG2.out; rw [Int.zero_add] at h_; exact h_) HC2.out HCC2.out (by have h_ := HL.out; rw [List.length_drop]; omega) (by have h_ := HL.out; omega) (fun x hx => H8.out x (List.mem_of_mem_drop hx))).mono ?_; rintro e w3 ⟨rfl, hb⟩; have B23 := Aside0.mk (blk_below B22.out hb); have HB3 := Aside0.mk (below_step HB2.out hb); clear hb) | ((with_reducible refine gate_op (.store 28 (.tmp 2) (.tmp 9)) rfl ?_); refine wpList_store_row rfl 28 (.tmp 2) (.tmp 9) rfl g2 (by rfl) 28 (u8s (List.replicate 32 0)) (u8s (shaF l)) (by rfl) B23.out (by rw [u8s_size, shaF_len]; exact I28.out) (by rw [u8s_size, u8s_size, shaF_len]; rfl) (u8s_one _) ?_))
  refine bodyPost_ret (results_cell_row rfl _ _ g2 28 (u8s (shaF l)) (0, 0) _ rfl (setRow_heap _ _ _ _ _ _ B23.out) Try.underlying28 rfl (by rw [u8s_size, shaF_len]; exact I28.out)) rfl ⟨rfl, below_row HB3.out G2.out _⟩
theorem C_arr {W : World} {g : Nat} {t : Nat} {l : List Int} (h : W.heap[g]? = some (.cells (u8s l) t (0, 0))) (hl : l.length ≤ 9223372036854775807) : Kd.C (Kd.int .u8) W (some ⟨g, 0, none⟩) l.length l := by
  refine Kd.C_of_reads (enc := Value.int .u8) (d := (0 : Int)) (h1 := fun _ => rfl) ⟨rfl, hl, fun _ => ⟨_, rfl, fun j hj => ?_⟩⟩
  have h1 := (blk_cell h j).trans (u8s_get l j hj)
  rw [show (⟨g, 0, none⟩ : Addr).add j = ⟨g, j, none⟩ from by cases j <;> simp [Addr.add]]
  rw [h1]
  unfold rd
  rw [Int.toNat_natCast]
def nameF (l : List Int) : ByteArray := strOfNums (hexL (shaF l))
theorem bitsB_ok (V : List Int) (k : Nat) : ∀ x ∈ outF V k, 0 ≤ x ∧ x ≤ 255 := by
  induction k with
  | zero => intro x hx; rw [List.eq_of_mem_replicate hx]; decide
  | succ k ih =>
    intro x hx
    simp only [outF] at hx
    rcases List.mem_or_eq_of_mem_set hx with hx | rfl
    · rcases List.mem_or_eq_of_mem_set hx with hx | rfl
      · rcases List.mem_or_eq_of_mem_set hx with hx | rfl
        · rcases List.mem_or_eq_of_mem_set hx with hx | rfl
          · exact ih x hx
          · omega
        · omega
      · omega
    · omega
theorem shaF_8 (l : List Int) : byteB (shaF l) = true := by
  unfold byteB
  rw [List.all_eq_true]
  intro x hx
  have := bitsB_ok _ _ x hx
  simp [this.1, this.2]
set_option maxHeartbeats 4000000 in
set_option maxRecDepth 100000 in
theorem name_calls (A : Option Addr) (c : Nat) (l : List Int) (w : World) (hr : Kd.C (Kd.int .u8) w A l.length l) (hc : l.length ≤ c) (hl : l.length ≤ 100000000) (h8 : ∀ x ∈ l, 0 ≤ x ∧ x ≤ 255) :
    Calls Try.prog 15 #[.slice A l.length c] w fun e w' => e = .returned (.string (nameF l)) ∧ Below w.heap.size w w' := by
  have HR := Aside0.mk hr
  have HC := Aside0.mk hc
  have HL := Aside0.mk hl
  have H8 := Aside0.mk h8
  have I28 : Aside0 ((Try.prog.info? 28).map (·.size) = some 32) := ⟨by kernel_rfl⟩
  clear hr hc hl h8
  go_enter Try.func15, Try.ntmps15
  go_wp2_with (first | (go_at_call 13; refine (sha_calls A c l w HR.out HC.out HL.out H8.out).mono ?_; rintro e w1 ⟨rfl, hb⟩; have HB1 := Aside0.mk hb; clear hb) | ((with_reducible refine gate_dst (N := 3) rfl ?_); refine box_event ?hg (N := 3) ?hd (cs := u8s (List.replicate 32 0)) (t := 28) ?hr ?_; (case hd => rfl); (case hg => rfl); (case hr => exact alloc28 _ _ _ _ _ _); intro g2 hg2 wa hbox hba; have B2 := Aside0.mk hbox; have HBA := Aside0.mk (below_step HB1.out hba); have G2 := Aside0.mk (show w.heap.size ≤ g2 from by have h_ := HB1.out.size; omega); clear hg2 hbox hba) | ((with_reducible refine gate_op (.store 28 (.tmp 3) (.tmp 5)) rfl ?_); refine wpList_store_row rfl 28 (.tmp 3) (.tmp 5) rfl g2 (by rfl) 28 (u8s (List.replicate 32 0)) (u8s (shaF l)) (by rfl) B2.out (by rw [u8s_size, shaF_len]; exact I28.out) (by rw [u8s_size, u8s_size, shaF_len]; rfl) (u8s_one _) ?_; have B3 := Aside0.mk (C_arr (setRow_heap _ _ _ (u8s (shaF l)) _ _ B2.out) (by rw [shaF_len]; decide)); have HB3 := Aside0.mk (below_row HBA.out G2.out (u8s (shaF l))); (generalize hW_ : World.setRow _ g2 _ = w5 at B3 HB3 ⊢); clear hW_) | (go_at_call 23; refine calls_of_args (args' := #[.slice (some ⟨g2, 0, none⟩) (shaF l).length 32]) (by rw [shaF_len]) ?_; with_reducible refine (word_Hex.calls (some ⟨g2, 0, none⟩) 32 (shaF l) (nameF l) w5 B3.out (by rw [shaF_len]; exact Nat.le_refl _) ?hx).mono ?_; (case hx => unfold word_Hex.f nameF; rw [if_pos ⟨shaF_8 l, by rw [shaF_len]; decide⟩]); rintro e w6 ⟨rfl, hb⟩; have HB4 := Aside0.mk (below_step HB3.out hb); clear hb))
  go_ret
  exact ⟨rfl, HB4.out⟩

end Go.Proofs.Ytijjopioamdahaa.D
