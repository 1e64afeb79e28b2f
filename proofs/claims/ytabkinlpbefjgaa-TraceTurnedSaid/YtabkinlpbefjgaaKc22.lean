/- Texts of this seat that a claim bears, put together by this session's own program shake.py: TrZx, TrZr, TrZy. -/
import Derived.Test.YtabkinlpbefjgaaProg
import Derived.Below
import Derived.Deep.Draws
import Derived.Deep.AppendLies
import Derived.Maps.AppendAt
import Derived.OwnWalk
import Derived.Laws.BytesArg
import Derived.Laws.MakeOwn
import Derived.Laws.OwnMore
import Derived.Deep.OwnRows
import Derived.Tactics
import Derived.Lib.ConvBytes
import Derived.Laws.Slices
import Derived.WalkKit
import Derived.KernelRfl
import Derived.RowKit3
import Derived.Deep.LoopGhost
import Derived.Deep.QuietTactic
import Derived.BigQuiet
import Derived.WideLaws
import Derived.Deep.DeepCutAuto
import Derived.Deep.CutBlock
import Derived.Deep.RegionHeld3
import Derived.Laws.Rows
import Derived.Lib.AppendStr
import Derived.ArgAppend
import Derived.Laws.IdiomCopy
import Derived.OrdersHeld
import Derived.Laws.BitsLemmas
import Derived.RowKit
import Derived.Test.YtabkinlpbefjgaaKc0
import Derived.Test.YtabkinlpbefjgaaKc1
import Derived.Test.YtabkinlpbefjgaaKc5
import Derived.Test.YtabkinlpbefjgaaKc7
import Derived.Maps.Own
import Derived.Recover
import Derived.WalkSmall
import Derived.StillTailTactics
import Derived.Laws.Pointers
import Derived.Test.YtabkinlpbefjgaaKc11
import Derived.Test.YtabkinlpbefjgaaKc20
import Derived.Test.YtabkinlpbefjgaaKc21
import Derived.DataShut
import Derived.Deep.RegionLawGrows
import Derived.Deep.Upon
import Derived.Deep.MidRow
import Derived.Test.YtabkinlpbefjgaaKc6
import Derived.Test.YtabkinlpbefjgaaKc3
namespace Go.Proofs.Ytabkinlpbefjgaa.L
open Go.RowKit Go.Proofs.Ytabkinlpbefjgaa.X Go.Proofs.YtabkinlpbefjgaaW.PrintWords Go.Proofs.YtabkinlpbefjgaaW.PrintLast Go.Proofs.YtabkinlpbefjgaaW.PrintMore
attribute [local go_sem] max2_int min2_int max_two min_two max_three min_three max_four min_four   -- for this text's walks alone
set_option linter.unusedVariables false
set_option linter.unusedSimpArgs false
open Go.Proofs.Ytabkinlpbefjgaa.Pure
def oldK {α : Type} (d : Kd α) (w0 : World) : Kd α where
  sz := d.sz
  E := []
  K _ x cs := d.K w0 x cs
  M _ _ _ x cs := d.K w0 x cs
  K_len h := d.K_len h
  K_one h := d.K_one h
  K_below _ h := h
  K_of_M h := h
  M_mono _ h := h
  M_bound h := h
  M_move _ h := h
  M_lower _ h := h
theorem oldK_of {α : Type} {d : Kd α} {w0 W : World} {A : Option Addr} {n : Nat} {xs : List α} (h : d.C w0 A n xs) (hb : Below w0.heap.size w0 W) : (oldK d w0).C W A n xs := ReadsRow.imp_ h hb (fun _ _ hp => hp)
theorem oldK_to {α : Type} {d : Kd α} {w0 W : World} {A : Option Addr} {n : Nat} {xs : List α} (h : (oldK d w0).C W A n xs) (hb : Below w0.heap.size w0 W) : d.C W A n xs := ReadsRow.imp_ h (Below.refl _ W) (fun _ _ hp => d.K_below hb hp)
theorem info47 : (Try.prog.info? 47).map (fun i => (i.zero, i.size, i.bytes)) = some (some (.agg #[.string ⟨#[]⟩, .int .i64 0, .int .i64 0, .slice none 0 0]), 4, 56) := by kernel_rfl
theorem info57 : (Try.prog.info? 57).map (fun i => (i.zero, i.size, i.bytes)) = some (some (.agg #[.string ⟨#[]⟩, .int .i64 0]), 2, 24) := by kernel_rfl
theorem trace_in {GS : List S57} {F : List S47} {AG : Option Addr} {cG : Nat} {A : Addr} {cF : Nat} {w W : World} (hb : Below w.heap.size w W) (hO : OkMid F GS) (hn : ∀ f ∈ F, f.f0.size ≤ 64) (hg : ∀ g ∈ GS, g.f0.size ≤ 64) (inp : List Int) (AI : Option Addr) (cI : Nat)
    (hG : Kd.C k57 w AG GS.length GS) (hF : Kd.C k47 w (some A) F.length F) (hI : (Kd.int .i32).C w AI inp.length inp) (hcF : F.length ≤ cF) (hcG : GS.length ≤ cG) (hcI : inp.length ≤ cI) (hw : ∀ v ∈ inp, W32 v) (hlen : inp.length ≤ 30) :
    Calls Try.prog 10 #[.agg #[.slice AG GS.length cG, .slice (some A) F.length cF], .slice AI inp.length cI, .int .i64 400] W (TracePost F GS inp 400 W) :=
  trace_calls F GS inp 400 W A cF AG cG AI cI (Kd.C_below hF hb) (Kd.C_below hG hb) (Kd.C_below hI hb) hcF hcG hcI hO hw hn hg (by omega) (by decide)
theorem lim_a (α : Type) (k n b : Nat) (h : n ≤ 1000) (hb : b ≤ 56) : (([] : List α).length + (n - k)) * b ≤ 140737488355328 := by
  have h1 : ([] : List α).length + (n - k) ≤ 1000 := by simp only [List.length_nil]; omega
  exact Nat.le_trans (Nat.mul_le_mul h1 hb) (by decide)
theorem lim_b {α : Type} (l : List α) (k b : Nat) (h : l.length ≤ 1000) (hb : b ≤ 56) (hk : k ≤ l.length) : ((l.drop k).length + k) * b ≤ 140737488355328 := by
  have h1 : (l.drop k).length + k ≤ 1000 := by rw [List.length_drop]; omega
  exact Nat.le_trans (Nat.mul_le_mul h1 hb) (by decide)
theorem old_row {α : Type} {d : Kd α} {w W : World} {e : Nat} {base : Nat} {ok : Nat → Prop} {A : Option Addr} {c : Nat} {xs : List α} (h : (oldK d w).R e W base ok (.slice A xs.length c) xs) (hb : Below w.heap.size w W) : xs.length ≤ c ∧ d.C W A xs.length xs := by
  obtain ⟨A2, c2, e2, hc, hC⟩ := Kd.R_reads h
  injection e2 with e3 _ e4
  subst e3 e4
  exact ⟨hc, oldK_to hC hb⟩
theorem old_far {α : Type} {d : Kd α} {w W W1 : World} {e : Nat} {base : Nat} {ok : Nat → Prop} {v : Value} {xs : List α} (h : (oldK d w).R e W base ok v xs) (hm : ∀ k, base ≤ k → k < W.heap.size → W1.heap[k]? = W.heap[k]?) : (oldK d w).R e W1 base (fun _ => True) v xs :=
  Kd.R_mono (Kd.R_step (Kd.R_bound h) (fun k hk hlt => hm k hk.2.1 hlt)) (fun _ _ => trivial)
structure TurnW (w w7 W : World) (F FT : List S47) (GS GT : List S57) (AG : Option Addr) (cG : Nat) (AF : Option Addr) (cF g : Nat) : Prop where
  low : Below w7.heap.size w7 W
  box : W.heap[g]? = some (.cells #[.slice AG GT.length cG, .slice AF FT.length cF] 25 (0, 0))
  rowF : Kd.C k47 W AF FT.length FT
  rowG : Kd.C k57 W AG GT.length GT
  capF : FT.length ≤ cF
  capG : GT.length ≤ cG
  permF : FT.Perm F
  permG : GT.Perm GS
set_option maxHeartbeats 4000000 in
set_option maxRecDepth 100000 in
theorem turned_calls (GS : List S57) (F : List S47) (AG : Option Addr) (cG : Nat) (AF : Option Addr) (cF : Nat) (AI : Option Addr) (cI : Nat) (l : List Int) (at_ : Int) (w : World) (hG : Kd.C k57 w AG GS.length GS) (hcG : GS.length ≤ cG) (hF : Kd.C k47 w AF F.length F) (hcF : F.length ≤ cF) (hI : (Kd.int .i32).C w AI l.length l) (hcI : l.length ≤ cI)
    (hN : ∀ f ∈ F, ∀ b ∈ f.f3, ∀ x ∈ b.f0, W32 x.f5) (hw : ∀ v ∈ l, W32 v) (hat : 0 ≤ at_ ∧ at_ ≤ 18446744073709551615) :
    Calls Try.prog 5 #[.agg #[.slice AG GS.length cG, .slice AF F.length cF], .slice AI l.length cI, .int .u64 at_] w fun e w' => e = .returned (.bool true) ∧ Below w.heap.size w w' := by
  obtain ⟨inp, hinp⟩ : ∃ inp, l.take 30 = inp := ⟨_, rfl⟩
  have HL3 : Aside0 (inp.length ≤ 30) := ⟨by rw [← hinp, List.length_take]; omega⟩
  have HCI : Aside0 (inp.length ≤ cI) := ⟨by rw [← hinp, List.length_take]; omega⟩
  have HWI : Aside0 (∀ v ∈ inp, W32 v) := ⟨fun v hv => hw v (List.mem_of_mem_take (hinp ▸ hv))⟩
  have hIt : (Kd.int .i32).C w AI inp.length inp := by
    by_cases h30 : 30 ≤ l.length
    · rw [← hinp]; exact Kd.C_take hI h30
    · rw [← hinp, List.take_of_length_le (by omega)]; exact hI
  have HIT := Aside0.mk hIt
  have HI0 := Aside0.mk hI
  have HC0 := Aside0.mk hcI
  have HGG := Aside0.mk hG
  have HF := Aside0.mk hF
  have HCG := Aside0.mk hcG
  have HCF := Aside0.mk hcF
  have HN := Aside0.mk hN
  have HINP := Aside0.mk hinp
  have HAT := Aside0.mk hat
  have hmF := Kd.C_max hF
  have hmG := Kd.C_max hG
  obtain ⟨k, hk⟩ : ∃ k : Nat, at_.tmod (F.length : Int) = (k : Int) := ⟨(at_.tmod (F.length : Int)).toNat, (Int.toNat_of_nonneg (Int.tmod_nonneg _ hat.1)).symm⟩
  obtain ⟨j, hj⟩ : ∃ j : Nat, at_.tmod (GS.length : Int) = (j : Int) := ⟨(at_.tmod (GS.length : Int)).toNat, (Int.toNat_of_nonneg (Int.tmod_nonneg _ hat.1)).symm⟩
  have hkn : 0 < F.length → k < F.length := fun h => by
    have h1 := Int.tmod_eq_emod_of_nonneg (b := (F.length : Int)) hat.1
    have h2 := Int.emod_lt_of_pos at_ (show (0 : Int) < F.length by omega)
    omega
  have hjn : 0 < GS.length → j < GS.length := fun h => by
    have h1 := Int.tmod_eq_emod_of_nonneg (b := (GS.length : Int)) hat.1
    have h2 := Int.emod_lt_of_pos at_ (show (0 : Int) < GS.length by omega)
    omega
  have hu0 : IntKind.u64.wrap (F.length : Int) = (F.length : Int) := by simp only [IntKind.wrap_u64]; omega
  have hu1 : IntKind.u64.wrap (GS.length : Int) = (GS.length : Int) := by simp only [IntKind.wrap_u64]; omega
  have HMF := Aside0.mk hmF
  have HMG := Aside0.mk hmG
  have HKN := Aside0.mk hkn
  have HJN := Aside0.mk hjn
  have HK := Aside0.mk hk
  have HJ := Aside0.mk hj
  have HU0 := Aside0.mk hu0
  have HU1 := Aside0.mk hu1
  clear hmF hmG hkn hjn hk hj hu0 hu1
  obtain ⟨FT, hFT⟩ : ∃ FT, F.drop k ++ F.take k = FT := ⟨_, rfl⟩
  have HFT := Aside0.mk hFT
  clear hFT
  have I32 : Aside0 ((Try.prog.info? 32).map (·.size) = some 5) := ⟨by kernel_rfl⟩
  clear hG hF hcG hcF hI hcI hN hw hinp hIt hat
  go_enter Try.func5, Try.ntmps5
  go_wp2_with (first
    | (go_at_call 7; (with_reducible refine (fine_at GS F AG cG AF cF _ (Kd.C_alloc HGG.out _) HCG.out (Kd.C_alloc HF.out _) HCF.out HN.out).mono ?_)
       rintro e w5 ⟨hB, hE⟩
       have hLW := (LawW.new GS F AG cG AF cF w).keep hB
       have m0 := hLW.c0
       have m1 := hLW.c1
       have HLW := Aside0.mk hLW
       clear hLW hB
       rcases hE with rfl | ⟨rfl, HO, A, rfl⟩
       rotate_left
       have HP0 : Aside0 (0 < F.length) := ⟨by have := HO.out.ok.main; omega⟩
       have HKL := Aside0.mk (HKN.out HP0.out)
       have hk := HK.out
       have hu0 := HU0.out
       have hnz : ¬ (F.length : Int) = 0 := by have := HP0.out; omega
       have hkw : wrap64 (k : Int) = (k : Int) := w64 (by omega) (by have := HKL.out; have := HMF.out; omega)
       rotate_left)
    | (go_at_call 8; (with_reducible refine (lives_calls _).mono ?_)
       rintro e w6 ⟨rfl, hB6⟩
       have HBL := Aside0.mk (below_step HLW.out.below hB6)
       clear hB6)
    | (go_at_call 9; (with_reducible refine (cut_at AI cI l inp 0 0 _ (Kd.C_below HI0.out HLW.out.below) HC0.out HINP.out (by decide)).mono ?_)
       rintro e w5 ⟨rfl, rfl⟩)
    | ((with_reducible refine gate_dst (N := 22) rfl ?_)
       refine Kd.R_lit (Kd.int .i32) _ 21 ?hg (N := 22) ?hd (xs := ([] : List Int)) (inner := []) (ok := fun _ => True) (okp := fun _ => True) ?hr ?hp (fun _ hk => hk) trivial (Below.refl _ _) (Nat.le_refl _) (by simp) ?_
       (case hd => rfl); (case hg => rfl); (case hr => first | (go_simp; done) | (go_simp; rfl)); (case hp => exact Reps.none _ _)
       intro v22 w22 ho hb hg_ hnew_
       have HR22 := Aside0.mk ho
       have HB22 := Aside0.mk hb
       have m0 := (HLW.out.keep hb).c0
       have m1 := (HLW.out.keep hb).c1
       clear ho hb hg_ hnew_)
    | ((with_reducible refine gate_builtin (b := .append) (xs := #[.tmp 22, .tmp 23]) rfl ?_)
       at_builtin
       refine Kd.R_append_row (Value.int .i32) (0 : Int) (h1 := fun _ => rfl) (w0 := w5) w5.heap.size rfl (.tmp 22) (.tmp 23) 26 21 (.int .i32 0) 4 rfl Try.underlying26 info21 rfl (by decide) v22 [] inp AI inp.length cI (fun _ => True) rfl rfl (fun _ _ => trivial) HR22.out (Kd.C_below (Kd.C_below HIT.out HLW.out.below) HB22.out) HB22.out HB22.out.size (by have h_ := HL3.out; simp; omega) ?_
       intro v24 w24 ho hb hg_ hat_
       obtain ⟨A24, c24, rfl, hc24, hC24⟩ := Kd.R_reads ho
       have HC24 : Aside0 ((Kd.int .i32).C w24 A24 inp.length inp) := ⟨hC24⟩
       have HCC24 : Aside0 (inp.length ≤ c24) := ⟨hc24⟩
       have HLW24 := Aside0.mk (HLW.out.keep hb)
       have m0 := HLW24.out.c0
       have m1 := HLW24.out.c1
       clear ho hb hg_ hat_ hc24 hC24)
    | (go_at_call 10; (with_reducible refine (trace_at HLW24.out HO.out inp AI cI 400 HGG.out HF.out HIT.out HCF.out HCG.out HCI.out HWI.out HL3.out (by decide)).mono ?_)
       rintro e w6 ⟨ea, va, Ga, A6, c6, ha, rfl, hl6, hC6, hB6⟩
       have hLW6 := HLW24.out.keep hB6
       have HLW6 := Aside0.mk hLW6
       have HA := Aside0.mk ha
       have HCA := Aside0.mk hC6.now
       have HLA := Aside0.mk hl6
       have HI6 := Aside0.mk (Kd.C_below HC24.out hB6)
       have m0 := hLW6.c0
       have m1 := hLW6.c1
       clear hLW6 ha hC6 hl6 hB6)
    | ((with_reducible refine gate_dst (N := 8) rfl ?_)
       refine box_event rfl (N := 8) rfl (cs := #[.int .i64 0, .int .i32 0, .slice none 0 0, .int .i64 0, .int .i64 0]) (t := 32) ?hr ?_
       case hr => first | (go_simp; done) | (go_simp; rfl)
       intro g8 hg w7x hbox hb; have hz0 : w7x.cell? ⟨g8, 0, none⟩ = some (.int .i64 0) := (blk_cell hbox 0).trans rfl; have hf0 := blk_frozen hbox 0; have hz1 : w7x.cell? ⟨g8, 1, none⟩ = some (.int .i32 0) := (blk_cell hbox 1).trans rfl; have hf1 := blk_frozen hbox 1; have hz2 : w7x.cell? ⟨g8, 2, none⟩ = some (.slice none 0 0) := (blk_cell hbox 2).trans rfl; have hf2 := blk_frozen hbox 2; have hz3 : w7x.cell? ⟨g8, 3, none⟩ = some (.int .i64 0) := (blk_cell hbox 3).trans rfl; have hf3 := blk_frozen hbox 3; have hz4 : w7x.cell? ⟨g8, 4, none⟩ = some (.int .i64 0) := (blk_cell hbox 4).trans rfl; have hf4 := blk_frozen hbox 4
       have HG := Aside0.mk (Nat.le_of_eq hg.symm)
       clear hg)
    | ((with_reducible refine gate_store (t := 32) (p := 8) rfl ?_)
       refine store_event (w1 := (((((w7x.setCell ⟨g8, 0, none⟩ (.int .i64 ea)).setCell ⟨g8, 1, none⟩ (.int .i32 va)).setCell ⟨g8, 2, none⟩ (.slice A6 Ga.tr.length c6)).setCell ⟨g8, 3, none⟩ (.int .i64 (Ga.st : Int))).setCell ⟨g8, 4, none⟩ (.int .i64 (Ga.rd : Int)))) rfl (t := 32) (p := 8) rfl rfl ?hr ?_
       case hr => first | (go_simp; done) | (go_simp; rfl)
       intro w7 hw
       have hcb := hw ▸ fill5 (g := g8) hbox
       have hbl := hw ▸ fillB5 (g := g8) hb HG.out
       have HLW7 := Aside0.mk (HLW6.out.keep hbl)
       have HX8 := Aside0.mk hcb
       have HCA7 := Aside0.mk (Kd.C_below HCA.out hbl)
       have HI7 := Aside0.mk (Kd.C_below HI6.out hbl)
       have m0 := HLW7.out.c0
       have m1 := HLW7.out.c1
       clear hcb hbl hw hbox hb hz0 hf0 hz1 hf1 hz2 hf2 hz3 hf3 hz4 hf4)
    | ((with_reducible refine gate_dst (N := 9) rfl ?_)
       refine box_event rfl (N := 9) rfl (cs := #[.slice none 0 0, .slice none 0 0]) (t := 25) ?hr ?_
       case hr => first | (go_simp; done) | (go_simp; rfl)
       intro g9 hg w8x hbox hb; have hz0 : w8x.cell? ⟨g9, 0, none⟩ = some (.slice none 0 0) := (blk_cell hbox 0).trans rfl; have hf0 := blk_frozen hbox 0; have hz1 : w8x.cell? ⟨g9, 1, none⟩ = some (.slice none 0 0) := (blk_cell hbox 1).trans rfl; have hf1 := blk_frozen hbox 1
       have HG := Aside0.mk (Nat.le_of_eq hg.symm)
       clear hg)
    | ((with_reducible refine gate_store (t := 25) (p := 9) rfl ?_)
       refine store_event (w1 := ((w8x.setCell ⟨g9, 0, none⟩ (.slice AG GS.length cG)).setCell ⟨g9, 1, none⟩ (.slice (some A) F.length cF))) rfl (t := 25) (p := 9) rfl rfl ?hr ?_
       case hr => first | (go_simp; done) | (go_simp; rfl)
       intro w8 hw
       have hcb := hw ▸ fill2 (g := g9) hbox
       have hbl := hw ▸ fillB2 (g := g9) hb HG.out
       have HLW8 := Aside0.mk (HLW7.out.keep hbl)
       have HQ9 := Aside0.mk hcb
       have HX88 := Aside0.mk (blk_below HX8.out hbl)
       have HCA8 := Aside0.mk (Kd.C_below HCA7.out hbl)
       have HI8 := Aside0.mk (Kd.C_below HI7.out hbl)
       have HG9 := Aside0.mk HG.out
       have HB9 := Aside0.mk hbl
       have m0 := HLW8.out.c0
       have m1 := HLW8.out.c1
       clear hcb hbl hw hbox hb hz0 hf0 hz1 hf1)
    | fail)
  · go_ret
    exact ⟨rfl, HBL.out⟩
  have hge : (k : Int) ≤ (F.length : Int) := by have := HKL.out; omega
  have hge2 : k ≤ F.length := Nat.le_of_lt HKL.out
  have hle_F := hge2
  have hce : k ≤ cF := Nat.le_trans hge2 HCF.out
  have HB79 := HB9.out
  have HDF : Aside0 (Kd.C k47 w (if cF = k then some A else some (A.add (k * 4))) (F.length - k) (F.drop k)) := ⟨by have h_ := Kd.C_drop HF.out hge2 HCF.out; rw [List.length_drop] at h_; exact h_⟩
  have HTF : Aside0 (Kd.C k47 w (some A) k (F.take k)) := ⟨by have h_ := Kd.C_take HF.out hge2; rw [List.length_take_of_le hge2] at h_; exact h_⟩
  refine start_ (n := 13) (S := fun w_ => w_.cell? ⟨w.heap.size, 1, none⟩ = some (.slice (some A) F.length cF) ∧ Aside0 (Below w8.heap.size w8 w_)) (ds := [12]) #[false, false, false, false, false, false, false, false, false, false, false, false, false] (by kernel_rfl) rfl rfl ⟨m1, ⟨below_drew (Below.refl _ _)⟩⟩ (fun hHeld => ?_)
  refine pure_ (i := 1) (N := some 37) (v := ?_) (a' := ?_) #[false, true, false, false, false, false, false, false, false, false, false, false, false] rfl rfl (by kernel_rfl) (fun _ _ _ h => h) (Or.inl ⟨by rfl, ?_⟩) ?_ ?_
  rotate_left
  · intro w'
    go_simp
    with_reducible rfl
  rotate_left
  · simp only [Act.put, List.setIfInBounds_toArray, List.set_cons_zero, List.set_cons_succ, i64_w, i32_w]
    rfl
  refine take_ (i := 2) (N := some 38) (v := ?_) (a' := ?_) #[false, true, true, false, false, false, false, false, false, false, false, false, false] rfl rfl (by kernel_rfl) (fun _ _ _ h => h) (Or.inl ⟨by rfl, ?_⟩) hHeld ?_ ?_
  rotate_left
  · rintro w' ⟨h0_, h1_⟩
    go_simp
    with_reducible rfl
  rotate_left
  · simp only [Act.put, List.setIfInBounds_toArray, List.set_cons_zero, List.set_cons_succ, i64_w, i32_w]
    rfl
  refine pure_ (i := 3) (N := some 39) (v := ?_) (a' := ?_) #[false, true, true, true, false, false, false, false, false, false, false, false, false] rfl rfl (by kernel_rfl) (fun _ _ _ h => h) (Or.inl ⟨by rfl, ?_⟩) ?_ ?_
  rotate_left
  · intro w'
    go_simp
    with_reducible rfl
  rotate_left
  · simp only [Act.put, List.setIfInBounds_toArray, List.set_cons_zero, List.set_cons_succ, i64_w, i32_w]
    rfl
  refine pure_ (i := 6) (N := some 42) (v := ?_) (a' := ?_) #[false, true, true, true, false, false, true, false, false, false, false, false, false] rfl rfl (by kernel_rfl) (fun _ _ _ h => h) (Or.inl ⟨by rfl, ?_⟩) ?_ ?_
  rotate_left
  · intro w'
    go_simp
    with_reducible rfl
  rotate_left
  · simp only [Act.put, List.setIfInBounds_toArray, List.set_cons_zero, List.set_cons_succ, i64_w, i32_w]
    rfl
  refine take_ (i := 7) (N := some 43) (v := ?_) (a' := ?_) #[false, true, true, true, false, false, true, true, false, false, false, false, false] rfl rfl (by kernel_rfl) (fun _ _ _ h => h) (Or.inl ⟨by rfl, ?_⟩) hHeld ?_ ?_
  rotate_left
  · rintro w' ⟨h0_, h1_⟩
    go_simp
    with_reducible rfl
  rotate_left
  · simp only [Act.put, List.setIfInBounds_toArray, List.set_cons_zero, List.set_cons_succ, i64_w, i32_w]
    rfl
  refine pure_ (i := 8) (N := some 44) (v := ?_) (a' := ?_) #[false, true, true, true, false, false, true, true, true, false, false, false, false] rfl rfl (by kernel_rfl) (fun _ _ _ h => h) (Or.inl ⟨by rfl, ?_⟩) ?_ ?_
  rotate_left
  · intro w'
    go_simp
    with_reducible rfl
  rotate_left
  · simp only [Act.put, List.setIfInBounds_toArray, List.set_cons_zero, List.set_cons_succ, i64_w, i32_w]
    rfl
  refine pure_ (i := 4) (N := some 40) (v := ?_) (a' := ?_) #[false, true, true, true, true, false, true, true, true, false, false, false, false] rfl rfl (by kernel_rfl) (fun _ _ _ h => h) (Or.inl ⟨by rfl, ?_⟩) ?_ ?_
  rotate_left
  · intro w'
    go_simp
    with_reducible rfl
  rotate_left
  · simp only [Act.put, List.setIfInBounds_toArray, List.set_cons_zero, List.set_cons_succ, i64_w, i32_w]
    rfl
  refine pure_ (i := 9) (N := some 45) (v := ?_) (a' := ?_) #[false, true, true, true, true, false, true, true, true, true, false, false, false] rfl rfl (by kernel_rfl) (fun _ _ _ h => h) (Or.inl ⟨by rfl, ?_⟩) ?_ ?_
  rotate_left
  · intro w'
    go_simp
    with_reducible rfl
  rotate_left
  · simp only [Act.put, List.setIfInBounds_toArray, List.set_cons_zero, List.set_cons_succ, i64_w, i32_w]
    rfl
  refine one_ (i := 0) (N := some 36) #[true, true, true, true, true, false, true, true, true, true, false, false, false] rfl rfl (by kernel_rfl) (by decide) (fun K hK => ?_)
  refine Kd.R_lit_step (oldK k47 w) (w0 := w8) w8.heap.size 47 (by rfl) (N := 36) rfl (xs := ([] : List S47)) (inner := []) (ok := fun _ => True) (okp := fun _ => True) ?hr ?hp (fun _ hk => hk) trivial hHeld.2.out hHeld.2.out.size (by simp) ?_
  (case hr => first | (go_simp; done) | (go_simp; rfl)); (case hp => exact Reps.none _ _)
  intro v36 w36 ho hb hg_ hnew_
  have HR36 := Aside0.mk ho
  skip
  clear ho hg_ hnew_
  refine hK.out _ _ ⟨pw_cell_below hb m1, ⟨hb⟩⟩ (fun hHeld => ?_)
  clear hb
  clear hK K
  refine norm_ (a' := ?_) ?_ ?_
  rotate_left
  · show Act.put _ (some 36) _ = _
    simp only [Act.put, List.setIfInBounds_toArray, List.set_cons_zero, List.set_cons_succ, i64_w, i32_w]
    rfl
  refine one_ (i := 5) (N := some 41) #[true, true, true, true, true, true, true, true, true, true, false, false, false] rfl rfl (by kernel_rfl) (by decide) (fun K hK => ?_)
  refine Kd.R_append_rows_step (oldK k47 w) (Rr := fun x cs => Kd.K k47 w x cs) (w0 := w8) w8.heap.size (by rfl) (.tmp 36) (.tmp 40) 23 47 (.agg #[.string ⟨#[]⟩, .int .i64 0, .int .i64 0, .slice none 0 0]) 56 rfl Try.underlying23 info47 rfl (show 0 < 4 by decide) (by decide) v36 [] (F.drop k) (if cF = k then some A else some (A.add (k * 4))) (F.length - k) (cF - k) (fun _ => True) (fun _ => False) rfl rfl HR36.out (oldK_of HDF.out (below_step (below_step HLW7.out.below HB79) hHeld.2.out)) (fun _ _ h => h) (fun _ h => h.elim) (fun _ _ => trivial) hHeld.2.out hHeld.2.out.size (lim_a S47 k (F.length) 56 HO.out.ok.few.1 (by decide)) ?_
  intro v41 w41 ho hb hg_ hat_
  have HR41 : Aside0 ((oldK k47 w).R 47 w41 w8.heap.size (fun _ => True) v41 (F.drop k)) := ⟨ho⟩
  clear ho hg_ hat_
  refine hK.out _ _ ⟨pw_cell_below hb m1, ⟨hb⟩⟩ (fun hHeld => ?_)
  clear hb
  clear hK K
  refine norm_ (a' := ?_) ?_ ?_
  rotate_left
  · show Act.put _ (some 41) _ = _
    simp only [Act.put, List.setIfInBounds_toArray, List.set_cons_zero, List.set_cons_succ, i64_w, i32_w]
    rfl
  refine one_ (i := 10) (N := some 46) #[true, true, true, true, true, true, true, true, true, true, true, false, false] rfl rfl (by kernel_rfl) (by decide) (fun K hK => ?_)
  refine Kd.R_append_rows_step (oldK k47 w) (Rr := fun x cs => Kd.K k47 w x cs) (w0 := w8) w8.heap.size (by rfl) (.tmp 41) (.tmp 45) 23 47 (.agg #[.string ⟨#[]⟩, .int .i64 0, .int .i64 0, .slice none 0 0]) 56 rfl Try.underlying23 info47 rfl (show 0 < 4 by decide) (by decide) v41 (F.drop k) (F.take k) (some A) k cF (fun _ => True) (fun _ => False) rfl rfl HR41.out (oldK_of HTF.out (below_step (below_step HLW7.out.below HB79) hHeld.2.out)) (fun _ _ h => h) (fun _ h => h.elim) (fun _ _ => trivial) hHeld.2.out hHeld.2.out.size (lim_b F k 56 HO.out.ok.few.1 (by decide) hle_F) ?_
  intro v46 w46 ho hb hg_ hat_
  rw [HFT.out] at ho
  obtain ⟨A46, c46, rfl⟩ := Kd.R_slice ho
  have HR46 := Aside0.mk ho
  clear ho hg_ hat_
  refine hK.out _ _ ⟨pw_cell_below hb m1, ⟨hb⟩⟩ (fun hHeld => ?_)
  clear hb
  clear hK K
  refine norm_ (a' := ?_) ?_ ?_
  rotate_left
  · show Act.put _ (some 46) _ = _
    simp only [Act.put, List.setIfInBounds_toArray, List.set_cons_zero, List.set_cons_succ, i64_w, i32_w]
    rfl
  refine pure_ (i := 11) (N := some 47) (v := ?_) (a' := ?_) #[true, true, true, true, true, true, true, true, true, true, true, true, false] rfl rfl (by kernel_rfl) (fun _ _ _ h => h) (Or.inl ⟨by rfl, ?_⟩) ?_ ?_
  rotate_left
  · intro w'
    go_simp
    with_reducible rfl
  rotate_left
  · simp only [Act.put, List.setIfInBounds_toArray, List.set_cons_zero, List.set_cons_succ, i64_w, i32_w]
    rfl
  have HeldB := Aside0.mk hHeld.2.out
  refine last_ (i := 12) (N := none) #[true, true, true, true, true, true, true, true, true, true, true, true, true] rfl rfl (by kernel_rfl) (by decide) (fun K hK => ?_)
  have hHB := HeldB.out
  rw [if_pos (by rfl)]
  have q0_ : w46.cell? ⟨g9, 1, none⟩ = some (.slice (some A) F.length cF) := (blk_cell (blk_below HQ9.out hHB) 1).trans rfl
  have q1_ := blk_frozen (blk_below HQ9.out hHB) 1
  go_simp
  refine hK.out _ _ ?_
  clear hK K
  refine done_ (by kernel_rfl) ?_
  have HBX : Aside0 (Below w7.heap.size w7 (w46.setCell ⟨g9, 1, none⟩ (.slice A46 FT.length c46))) := ⟨Below.setCell (below_step HB9.out HeldB.out) HG9.out _⟩
  have HQ47 : Aside0 ((w46.setCell ⟨g9, 1, none⟩ (.slice A46 FT.length c46)).heap[g9]? = some (.cells #[.slice AG GS.length cG, .slice A46 FT.length c46] 25 (0, 0))) := ⟨blk_put (blk_below HQ9.out HeldB.out) 1 _ rfl⟩
  have HR47 : Aside0 ((oldK k47 w).R 47 (w46.setCell ⟨g9, 1, none⟩ (.slice A46 FT.length c46)) w8.heap.size (fun _ => True) (.slice A46 FT.length c46) FT) := ⟨old_far HR46.out (fun k hk _ => Below.heap_setCell _ _ _ _ (Nat.ne_of_gt (Nat.lt_of_lt_of_le (blk_lt HQ9.out) hk)))⟩
  have HPF : Aside0 (FT.Perm F) := ⟨HFT.out ▸ turned_perm F k⟩
  generalize (w46.setCell ⟨g9, 1, none⟩ (.slice A46 FT.length c46)) = w47 at HBX HQ47 HR47 ⊢
  have m0 : w47.cell? ⟨w.heap.size, 0, none⟩ = some (.slice AG GS.length cG) := (HLW7.out.keep HBX.out).c0
  have m1 : w47.cell? ⟨w.heap.size, 1, none⟩ = some (.slice (some A) F.length cF) := (HLW7.out.keep HBX.out).c1
  by_cases hG0 : 0 < GS.length
  · have hju := HU1.out
    have hjt := HJ.out
    have hjl := HJN.out hG0
    have hjn_ : ¬ (GS.length : Int) = 0 := by omega
    have hjw : wrap64 (j : Int) = (j : Int) := w64 (by omega) (by have := HMG.out; omega)
    have hgt1 : decide ((GS.length : Int) > 0) = true := decide_eq_true (by omega)
    have hgt2 : decide ((0 : Int) < (GS.length : Int)) = true := decide_eq_true (by omega)
    obtain ⟨B, hB, _⟩ := at_T57 HGG.out 0 (by omega) (by omega)
    subst hB
    obtain ⟨GT, hGT⟩ : ∃ GT, GS.drop j ++ GS.take j = GT := ⟨_, rfl⟩
    have HGT := Aside0.mk hGT
    clear hGT
    have hle2 : j ≤ GS.length := Nat.le_of_lt hjl
    have hle_GS := hle2
    have hle : (j : Int) ≤ (GS.length : Int) := Int.ofNat_le.2 hle2
    have hle3 : j ≤ cG := Nat.le_trans hle2 HCG.out
    have HB79 := HBX.out
    have HDG : Aside0 (Kd.C k57 w (if cG = j then some B else some (B.add (j * 2))) (GS.length - j) (GS.drop j)) := ⟨by have h_ := Kd.C_drop HGG.out hle2 HCG.out; rw [List.length_drop] at h_; exact h_⟩
    have HTG : Aside0 (Kd.C k57 w (some B) j (GS.take j)) := ⟨by have h_ := Kd.C_take HGG.out hle2; rw [List.length_take_of_le hle2] at h_; exact h_⟩
    go_upto_region 12 with fail
    refine start_ (n := 13) (S := fun w_ => w_.cell? ⟨w.heap.size, 0, none⟩ = some (.slice (some B) GS.length cG) ∧ Aside0 (Below w47.heap.size w47 w_)) (ds := [12]) #[false, false, false, false, false, false, false, false, false, false, false, false, false] (by kernel_rfl) rfl rfl ⟨m0, ⟨below_drew (Below.refl _ _)⟩⟩ (fun hHeld => ?_)
    refine pure_ (i := 1) (N := some 59) (v := ?_) (a' := ?_) #[false, true, false, false, false, false, false, false, false, false, false, false, false] rfl rfl (by kernel_rfl) (fun _ _ _ h => h) (Or.inl ⟨by rfl, ?_⟩) ?_ ?_
    rotate_left
    · intro w'
      go_simp
      with_reducible rfl
    rotate_left
    · simp only [Act.put, List.setIfInBounds_toArray, List.set_cons_zero, List.set_cons_succ, i64_w, i32_w]
      rfl
    refine take_ (i := 2) (N := some 60) (v := ?_) (a' := ?_) #[false, true, true, false, false, false, false, false, false, false, false, false, false] rfl rfl (by kernel_rfl) (fun _ _ _ h => h) (Or.inl ⟨by rfl, ?_⟩) hHeld ?_ ?_
    rotate_left
    · rintro w' ⟨h0_, h1_⟩
      go_simp
      with_reducible rfl
    rotate_left
    · simp only [Act.put, List.setIfInBounds_toArray, List.set_cons_zero, List.set_cons_succ, i64_w, i32_w]
      rfl
    refine pure_ (i := 3) (N := some 61) (v := ?_) (a' := ?_) #[false, true, true, true, false, false, false, false, false, false, false, false, false] rfl rfl (by kernel_rfl) (fun _ _ _ h => h) (Or.inl ⟨by rfl, ?_⟩) ?_ ?_
    rotate_left
    · intro w'
      go_simp
      with_reducible rfl
    rotate_left
    · simp only [Act.put, List.setIfInBounds_toArray, List.set_cons_zero, List.set_cons_succ, i64_w, i32_w]
      rfl
    refine pure_ (i := 6) (N := some 64) (v := ?_) (a' := ?_) #[false, true, true, true, false, false, true, false, false, false, false, false, false] rfl rfl (by kernel_rfl) (fun _ _ _ h => h) (Or.inl ⟨by rfl, ?_⟩) ?_ ?_
    rotate_left
    · intro w'
      go_simp
      with_reducible rfl
    rotate_left
    · simp only [Act.put, List.setIfInBounds_toArray, List.set_cons_zero, List.set_cons_succ, i64_w, i32_w]
      rfl
    refine take_ (i := 7) (N := some 65) (v := ?_) (a' := ?_) #[false, true, true, true, false, false, true, true, false, false, false, false, false] rfl rfl (by kernel_rfl) (fun _ _ _ h => h) (Or.inl ⟨by rfl, ?_⟩) hHeld ?_ ?_
    rotate_left
    · rintro w' ⟨h0_, h1_⟩
      go_simp
      with_reducible rfl
    rotate_left
    · simp only [Act.put, List.setIfInBounds_toArray, List.set_cons_zero, List.set_cons_succ, i64_w, i32_w]
      rfl
    refine pure_ (i := 8) (N := some 66) (v := ?_) (a' := ?_) #[false, true, true, true, false, false, true, true, true, false, false, false, false] rfl rfl (by kernel_rfl) (fun _ _ _ h => h) (Or.inl ⟨by rfl, ?_⟩) ?_ ?_
    rotate_left
    · intro w'
      go_simp
      with_reducible rfl
    rotate_left
    · simp only [Act.put, List.setIfInBounds_toArray, List.set_cons_zero, List.set_cons_succ, i64_w, i32_w]
      rfl
    refine pure_ (i := 4) (N := some 62) (v := ?_) (a' := ?_) #[false, true, true, true, true, false, true, true, true, false, false, false, false] rfl rfl (by kernel_rfl) (fun _ _ _ h => h) (Or.inl ⟨by rfl, ?_⟩) ?_ ?_
    rotate_left
    · intro w'
      go_simp
      with_reducible rfl
    rotate_left
    · simp only [Act.put, List.setIfInBounds_toArray, List.set_cons_zero, List.set_cons_succ, i64_w, i32_w]
      rfl
    refine pure_ (i := 9) (N := some 67) (v := ?_) (a' := ?_) #[false, true, true, true, true, false, true, true, true, true, false, false, false] rfl rfl (by kernel_rfl) (fun _ _ _ h => h) (Or.inl ⟨by rfl, ?_⟩) ?_ ?_
    rotate_left
    · intro w'
      go_simp
      with_reducible rfl
    rotate_left
    · simp only [Act.put, List.setIfInBounds_toArray, List.set_cons_zero, List.set_cons_succ, i64_w, i32_w]
      rfl
    refine one_ (i := 0) (N := some 58) #[true, true, true, true, true, false, true, true, true, true, false, false, false] rfl rfl (by kernel_rfl) (by decide) (fun K hK => ?_)
    refine Kd.R_lit_step (oldK k57 w) (w0 := w47) w47.heap.size 57 (by rfl) (N := 58) rfl (xs := ([] : List S57)) (inner := []) (ok := fun _ => True) (okp := fun _ => True) ?hr ?hp (fun _ hk => hk) trivial hHeld.2.out hHeld.2.out.size (by simp) ?_
    (case hr => first | (go_simp; done) | (go_simp; rfl)); (case hp => exact Reps.none _ _)
    intro v58 w58 ho hb hg_ hnew_
    have HR58 := Aside0.mk ho
    skip
    clear ho hg_ hnew_
    refine hK.out _ _ ⟨pw_cell_below hb m0, ⟨hb⟩⟩ (fun hHeld => ?_)
    clear hb
    clear hK K
    refine norm_ (a' := ?_) ?_ ?_
    rotate_left
    · show Act.put _ (some 58) _ = _
      simp only [Act.put, List.setIfInBounds_toArray, List.set_cons_zero, List.set_cons_succ, i64_w, i32_w]
      rfl
    refine one_ (i := 5) (N := some 63) #[true, true, true, true, true, true, true, true, true, true, false, false, false] rfl rfl (by kernel_rfl) (by decide) (fun K hK => ?_)
    refine Kd.R_append_rows_step (oldK k57 w) (Rr := fun x cs => Kd.K k57 w x cs) (w0 := w47) w47.heap.size (by rfl) (.tmp 58) (.tmp 62) 22 57 (.agg #[.string ⟨#[]⟩, .int .i64 0]) 24 rfl Try.underlying22 info57 rfl (show 0 < 2 by decide) (by decide) v58 [] (GS.drop j) (if cG = j then some B else some (B.add (j * 2))) (GS.length - j) (cG - j) (fun _ => True) (fun _ => False) rfl rfl HR58.out (oldK_of HDG.out (below_step (below_step HLW7.out.below HB79) hHeld.2.out)) (fun _ _ h => h) (fun _ h => h.elim) (fun _ _ => trivial) hHeld.2.out hHeld.2.out.size (lim_a S57 j (GS.length) 24 HO.out.ok.few.2 (by decide)) ?_
    intro v63 w63 ho hb hg_ hat_
    have HR63 : Aside0 ((oldK k57 w).R 57 w63 w47.heap.size (fun _ => True) v63 (GS.drop j)) := ⟨ho⟩
    clear ho hg_ hat_
    refine hK.out _ _ ⟨pw_cell_below hb m0, ⟨hb⟩⟩ (fun hHeld => ?_)
    clear hb
    clear hK K
    refine norm_ (a' := ?_) ?_ ?_
    rotate_left
    · show Act.put _ (some 63) _ = _
      simp only [Act.put, List.setIfInBounds_toArray, List.set_cons_zero, List.set_cons_succ, i64_w, i32_w]
      rfl
    refine one_ (i := 10) (N := some 68) #[true, true, true, true, true, true, true, true, true, true, true, false, false] rfl rfl (by kernel_rfl) (by decide) (fun K hK => ?_)
    refine Kd.R_append_rows_step (oldK k57 w) (Rr := fun x cs => Kd.K k57 w x cs) (w0 := w47) w47.heap.size (by rfl) (.tmp 63) (.tmp 67) 22 57 (.agg #[.string ⟨#[]⟩, .int .i64 0]) 24 rfl Try.underlying22 info57 rfl (show 0 < 2 by decide) (by decide) v63 (GS.drop j) (GS.take j) (some B) j cG (fun _ => True) (fun _ => False) rfl rfl HR63.out (oldK_of HTG.out (below_step (below_step HLW7.out.below HB79) hHeld.2.out)) (fun _ _ h => h) (fun _ h => h.elim) (fun _ _ => trivial) hHeld.2.out hHeld.2.out.size (lim_b GS j 24 HO.out.ok.few.2 (by decide) hle_GS) ?_
    intro v68 w68 ho hb hg_ hat_
    rw [HGT.out] at ho
    obtain ⟨A68, c68, rfl⟩ := Kd.R_slice ho
    have HR68 := Aside0.mk ho
    clear ho hg_ hat_
    refine hK.out _ _ ⟨pw_cell_below hb m0, ⟨hb⟩⟩ (fun hHeld => ?_)
    clear hb
    clear hK K
    refine norm_ (a' := ?_) ?_ ?_
    rotate_left
    · show Act.put _ (some 68) _ = _
      simp only [Act.put, List.setIfInBounds_toArray, List.set_cons_zero, List.set_cons_succ, i64_w, i32_w]
      rfl
    refine pure_ (i := 11) (N := some 69) (v := ?_) (a' := ?_) #[true, true, true, true, true, true, true, true, true, true, true, true, false] rfl rfl (by kernel_rfl) (fun _ _ _ h => h) (Or.inl ⟨by rfl, ?_⟩) ?_ ?_
    rotate_left
    · intro w'
      go_simp
      with_reducible rfl
    rotate_left
    · simp only [Act.put, List.setIfInBounds_toArray, List.set_cons_zero, List.set_cons_succ, i64_w, i32_w]
      rfl
    have HeldB := Aside0.mk hHeld.2.out
    refine last_ (i := 12) (N := none) #[true, true, true, true, true, true, true, true, true, true, true, true, true] rfl rfl (by kernel_rfl) (by decide) (fun K hK => ?_)
    have hHB := HeldB.out
    rw [if_pos (by rfl)]
    have q0_ : w68.cell? ⟨g9, 0, none⟩ = some (.slice (some B) GS.length cG) := (blk_cell (blk_below HQ47.out hHB) 0).trans rfl
    have q1_ := blk_frozen (blk_below HQ47.out hHB) 0
    go_simp
    refine hK.out _ _ ?_
    clear hK K
    refine done_ (by kernel_rfl) ?_
    have HLOW : Aside0 (Below w7.heap.size w7 (w68.setCell ⟨g9, 0, none⟩ (.slice A68 GT.length c68))) := ⟨Below.setCell (below_step HBX.out HeldB.out) HG9.out _⟩
    have HBW : Aside0 (Below w.heap.size w (w68.setCell ⟨g9, 0, none⟩ (.slice A68 GT.length c68))) := ⟨(HLW7.out.keep HLOW.out).below⟩
    have hne9 := blk_lt HQ9.out
    have hsz9 := HBX.out.size
    have hrF := old_row (old_far (W1 := (w68.setCell ⟨g9, 0, none⟩ (.slice A68 GT.length c68))) HR47.out (fun k hk hlt => (Below.heap_setCell _ _ _ _ (Nat.ne_of_gt (Nat.lt_of_lt_of_le hne9 hk))).trans (HeldB.out.block k hlt))) HBW.out
    have hlt47 := blk_lt HQ47.out
    have hrG := old_row (old_far (W1 := (w68.setCell ⟨g9, 0, none⟩ (.slice A68 GT.length c68))) HR68.out (fun k hk _ => Below.heap_setCell _ _ _ _ (Nat.ne_of_gt (Nat.lt_of_lt_of_le hlt47 hk)))) HBW.out
    have HT : Aside0 (TurnW w w7 (w68.setCell ⟨g9, 0, none⟩ (.slice A68 GT.length c68)) F FT GS GT A68 c68 A46 c46 g9) := ⟨⟨HLOW.out, blk_put (blk_below HQ47.out HeldB.out) 0 _ rfl, hrF.2, hrG.2, hrF.1, hrG.1, HPF.out, HGT.out ▸ turned_perm GS j⟩⟩
    generalize (w68.setCell ⟨g9, 0, none⟩ (.slice A68 GT.length c68)) = w69 at HT HBW ⊢
    clear m0 m1 hrF hrG hne9 hsz9 hlt47 HLOW
    go_upto_region 13 with fail
    obtain ⟨Aq, _, _, hAq, _⟩ := at_T47 HT.out.rowF 0 (Int.le_refl 0) (Int.ofNat_lt.2 (Nat.lt_of_lt_of_le HP0.out (Nat.le_of_eq HT.out.permF.length_eq.symm)))
    subst hAq
    have HOT := Aside0.mk (turn_ok HO.out.ok HT.out.permF HT.out.permG)
    have HNF := Aside0.mk (fun f hf => HO.out.fn f (HT.out.permF.mem_iff.1 hf))
    have HNG := Aside0.mk (fun g hg => HO.out.gn g (HT.out.permG.mem_iff.1 hg))
    have hx8 := blk_below HX8.out HT.out.low
    have hxq := HT.out.box
    have q0 : w69.cell? ⟨g9, 0, none⟩ = some (.slice A68 GT.length c68) := (blk_cell hxq 0).trans rfl
    have q1 : w69.cell? ⟨g9, 1, none⟩ = some (.slice (some Aq) FT.length c46) := (blk_cell hxq 1).trans rfl
    have x0 : w69.cell? ⟨g8, 0, none⟩ = some (.int .i64 ea) := (blk_cell hx8 0).trans rfl
    have x1 : w69.cell? ⟨g8, 1, none⟩ = some (.int .i32 va) := (blk_cell hx8 1).trans rfl
    have x2 : w69.cell? ⟨g8, 2, none⟩ = some (.slice A6 Ga.tr.length c6) := (blk_cell hx8 2).trans rfl
    have x3 : w69.cell? ⟨g8, 3, none⟩ = some (.int .i64 (Ga.st : Int)) := (blk_cell hx8 3).trans rfl
    have x4 : w69.cell? ⟨g8, 4, none⟩ = some (.int .i64 (Ga.rd : Int)) := (blk_cell hx8 4).trans rfl
    have HIZ := Aside0.mk (Kd.C_below HIT.out HBW.out)
    have HI24 := Aside0.mk (Kd.C_below HI7.out HT.out.low)
    have HCAZ := Aside0.mk (Kd.C_below HCA7.out HT.out.low)
    clear hx8 hxq
    refine start_ (n := 14) (S := fun w_ => w_.cell? ⟨g9, 0, none⟩ = some (.slice A68 GT.length c68) ∧ w_.cell? ⟨g9, 1, none⟩ = some (.slice (some Aq) FT.length c46) ∧ w_.cell? ⟨g8, 0, none⟩ = some (.int .i64 ea) ∧ w_.cell? ⟨g8, 1, none⟩ = some (.int .i32 va) ∧ w_.cell? ⟨g8, 2, none⟩ = some (.slice A6 Ga.tr.length c6) ∧ w_.cell? ⟨g8, 3, none⟩ = some (.int .i64 (Ga.st : Int)) ∧ w_.cell? ⟨g8, 4, none⟩ = some (.int .i64 (Ga.rd : Int)) ∧ Aside0 (Below w69.heap.size w69 w_)) (ds := []) #[false, false, false, false, false, false, false, false, false, false, false, false, false, false] (by kernel_rfl) rfl rfl ⟨q0, q1, x0, x1, x2, x3, x4, ⟨below_drew (Below.refl _ _)⟩⟩ (fun hHeld => ?_)
    refine take_ (i := 0) (N := some 70) (v := ?_) (a' := ?_) #[true, false, false, false, false, false, false, false, false, false, false, false, false, false] rfl rfl (by kernel_rfl) (fun _ _ _ h => h) (Or.inl ⟨by rfl, ?_⟩) hHeld ?_ ?_
    rotate_left
    · rintro w' ⟨h0_, h1_, h2_, h3_, h4_, h5_, h6_, h7_⟩
      go_simp
      with_reducible rfl
    rotate_left
    · simp only [Act.put, List.setIfInBounds_toArray, List.set_cons_zero, List.set_cons_succ, i64_w, i32_w]
      rfl
    refine pure_ (i := 1) (N := some 71) (v := ?_) (a' := ?_) #[true, true, false, false, false, false, false, false, false, false, false, false, false, false] rfl rfl (by kernel_rfl) (fun _ _ _ h => h) (Or.inl ⟨by rfl, ?_⟩) ?_ ?_
    rotate_left
    · intro w'
      go_simp
      with_reducible rfl
    rotate_left
    · simp only [Act.put, List.setIfInBounds_toArray, List.set_cons_zero, List.set_cons_succ, i64_w, i32_w]
      rfl
    refine take_ (i := 3) (N := some 73) (v := ?_) (a' := ?_) #[true, true, false, true, false, false, false, false, false, false, false, false, false, false] rfl rfl (by kernel_rfl) (fun _ _ _ h => h) (Or.inl ⟨by rfl, ?_⟩) hHeld ?_ ?_
    rotate_left
    · rintro w' ⟨h0_, h1_, h2_, h3_, h4_, h5_, h6_, h7_⟩
      go_simp
      with_reducible rfl
    rotate_left
    · simp only [Act.put, List.setIfInBounds_toArray, List.set_cons_zero, List.set_cons_succ, i64_w, i32_w]
      rfl
    refine one_ (i := 2) (N := some 72) #[true, true, true, true, false, false, false, false, false, false, false, false, false, false] rfl rfl (by kernel_rfl) (by decide) (fun K hK => ?_)
    refine goes_ Try.func10 (by kernel_rfl) rfl #[.agg #[.slice A68 GT.length c68, .slice (some Aq) FT.length c46], .slice AI inp.length cI, .int .i64 400] (by rfl) rfl rfl (by first | rfl | (simp only [List.map_toArray, List.map_cons, List.map_nil]; done) | (simp only [List.map_toArray, List.map_cons, List.map_nil]; rfl)) ?_
    refine (trace_in hHeld.2.2.2.2.2.2.2.out HOT.out HNF.out HNG.out inp AI cI HT.out.rowG HT.out.rowF HIZ.out HT.out.capF HT.out.capG HCI.out HWI.out HL3.out).mono ?_
    rintro e_ w72 ⟨e2, v2, G2, A2, c2, hr2, rfl, hl2, hC2, hB_⟩; have HT5 := Aside0.mk (turn_run HO.out.ok HT.out.permF HT.out.permG inp 400 HA.out hr2); have HC72 := Aside0.mk hC2.now; have HL72 := Aside0.mk hl2; have HTR := Aside0.mk (Nat.le_trans (runT_tr hr2) (by decide : (400 : Int).toNat ≤ 1000000)); clear hr2 hl2 hC2
    refine ⟨_, rfl, ?_⟩
    refine hK.out _ _ ⟨pw_cell_below hB_ hHeld.1, pw_cell_below hB_ hHeld.2.1, pw_cell_below hB_ hHeld.2.2.1, pw_cell_below hB_ hHeld.2.2.2.1, pw_cell_below hB_ hHeld.2.2.2.2.1, pw_cell_below hB_ hHeld.2.2.2.2.2.1, pw_cell_below hB_ hHeld.2.2.2.2.2.2.1, ⟨below_then hHeld.2.2.2.2.2.2.2.out hHeld.2.2.2.2.2.2.2.out.size hB_⟩⟩ (fun hHeld => ?_)
    clear hK K
    refine norm_ (a' := ?_) ?_ ?_
    rotate_left
    · show Act.put _ (some 72) _ = _
      simp only [Act.put, List.setIfInBounds_toArray, List.set_cons_zero, List.set_cons_succ, i64_w, i32_w]
      rfl
    refine one_ (i := 4) (N := some 74) #[true, true, true, true, true, false, false, false, false, false, false, false, false, false] rfl rfl (by kernel_rfl) (by decide) (fun K hK => ?_)
    refine goes_ Try.func12 (by kernel_rfl) rfl #[.agg #[.int .i64 e2, .int .i32 v2, .slice A2 G2.tr.length c2, .int .i64 (G2.st : Int), .int .i64 (G2.rd : Int)], .agg #[.int .i64 ea, .int .i32 va, .slice A6 Ga.tr.length c6, .int .i64 (Ga.st : Int), .int .i64 (Ga.rd : Int)]] (by rfl) rfl rfl (by first | rfl | (simp only [List.map_toArray, List.map_cons, List.map_nil]; done) | (simp only [List.map_toArray, List.map_cons, List.map_nil]; rfl)) ?_
    refine (same_calls e2 v2 A2 c2 G2.tr (G2.st : Int) (G2.rd : Int) ea va A6 c6 Ga.tr (Ga.st : Int) (Ga.rd : Int) w72 HC72.out HL72.out (Kd.C_below HCAZ.out hHeld.2.2.2.2.2.2.2.out) HLA.out HTR.out).mono ?_
    rw [decide_eq_true (show e2 = ea ∧ v2 = va ∧ (G2.rd : Int) = (Ga.rd : Int) ∧ G2.tr = Ga.tr from ⟨HT5.out.1, HT5.out.2.1, by rw [HT5.out.2.2.2.2], HT5.out.2.2.1⟩)]; rintro e_ w74 ⟨rfl, hB_⟩
    refine ⟨_, rfl, ?_⟩
    refine hK.out _ _ ⟨pw_cell_below hB_ hHeld.1, pw_cell_below hB_ hHeld.2.1, pw_cell_below hB_ hHeld.2.2.1, pw_cell_below hB_ hHeld.2.2.2.1, pw_cell_below hB_ hHeld.2.2.2.2.1, pw_cell_below hB_ hHeld.2.2.2.2.2.1, pw_cell_below hB_ hHeld.2.2.2.2.2.2.1, ⟨below_then hHeld.2.2.2.2.2.2.2.out hHeld.2.2.2.2.2.2.2.out.size hB_⟩⟩ (fun hHeld => ?_)
    clear hK K
    refine norm_ (a' := ?_) ?_ ?_
    rotate_left
    · show Act.put _ (some 74) _ = _
      simp only [Act.put, List.setIfInBounds_toArray, List.set_cons_zero, List.set_cons_succ, i64_w, i32_w]
      rfl
    refine pure_ (i := 5) (N := some 75) (v := ?_) (a' := ?_) #[true, true, true, true, true, true, false, false, false, false, false, false, false, false] rfl rfl (by kernel_rfl) (fun _ _ _ h => h) (Or.inl ⟨by rfl, ?_⟩) ?_ ?_
    rotate_left
    · intro w'
      go_simp
      with_reducible rfl
    rotate_left
    · simp only [Act.put, List.setIfInBounds_toArray, List.set_cons_zero, List.set_cons_succ, i64_w, i32_w]
      rfl
    refine pure_ (i := 6) (N := some 76) (v := ?_) (a' := ?_) #[true, true, true, true, true, true, true, false, false, false, false, false, false, false] rfl rfl (by kernel_rfl) (fun _ _ _ h => h) (Or.inl ⟨by rfl, ?_⟩) ?_ ?_
    rotate_left
    · intro w'
      go_simp
      with_reducible rfl
    rotate_left
    · simp only [Act.put, List.setIfInBounds_toArray, List.set_cons_zero, List.set_cons_succ, i64_w, i32_w]
      rfl
    refine pure_ (i := 7) (N := some 77) (v := ?_) (a' := ?_) #[true, true, true, true, true, true, true, true, false, false, false, false, false, false] rfl rfl (by kernel_rfl) (fun _ _ _ h => h) (Or.inl ⟨by rfl, ?_⟩) ?_ ?_
    rotate_left
    · intro w'
      go_simp
      with_reducible rfl
    rotate_left
    · simp only [Act.put, List.setIfInBounds_toArray, List.set_cons_zero, List.set_cons_succ, i64_w, i32_w]
      rfl
    refine one_ (i := 8) (N := some 78) #[true, true, true, true, true, true, true, true, true, false, false, false, false, false] rfl rfl (by kernel_rfl) (by decide) (fun K hK => ?_)
    refine goes_ Try.func14 (by kernel_rfl) rfl #[.slice AI inp.length cI, .slice A24 inp.length c24] (by rfl) rfl rfl (by first | rfl | (simp only [List.map_toArray, List.map_cons, List.map_nil]; done) | (simp only [List.map_toArray, List.map_cons, List.map_nil]; rfl)) ?_
    refine (samewords_calls AI cI inp A24 c24 inp w74 (Kd.C_below HIZ.out hHeld.2.2.2.2.2.2.2.out) HCI.out (Kd.C_below HI24.out hHeld.2.2.2.2.2.2.2.out) HCC24.out (Nat.le_trans HL3.out (by decide))).mono ?_
    rw [decide_eq_true (show inp = inp from rfl)]; rintro e_ w78 ⟨rfl, hd_⟩; obtain ⟨k_, rfl⟩ := hd_.out; have hB_ := pw_below_drewN (Below.refl w74.heap.size w74) k_
    refine ⟨_, rfl, ?_⟩
    refine hK.out _ _ ⟨pw_cell_below hB_ hHeld.1, pw_cell_below hB_ hHeld.2.1, pw_cell_below hB_ hHeld.2.2.1, pw_cell_below hB_ hHeld.2.2.2.1, pw_cell_below hB_ hHeld.2.2.2.2.1, pw_cell_below hB_ hHeld.2.2.2.2.2.1, pw_cell_below hB_ hHeld.2.2.2.2.2.2.1, ⟨below_then hHeld.2.2.2.2.2.2.2.out hHeld.2.2.2.2.2.2.2.out.size hB_⟩⟩ (fun hHeld => ?_)
    clear hK K
    refine norm_ (a' := ?_) ?_ ?_
    rotate_left
    · show Act.put _ (some 78) _ = _
      simp only [Act.put, List.setIfInBounds_toArray, List.set_cons_zero, List.set_cons_succ, i64_w, i32_w]
      rfl
    refine pure_ (i := 9) (N := some 79) (v := ?_) (a' := ?_) #[true, true, true, true, true, true, true, true, true, true, false, false, false, false] rfl rfl (by kernel_rfl) (fun _ _ _ h => h) (Or.inl ⟨by rfl, ?_⟩) ?_ ?_
    rotate_left
    · intro w'
      go_simp
      with_reducible rfl
    rotate_left
    · simp only [Act.put, List.setIfInBounds_toArray, List.set_cons_zero, List.set_cons_succ, i64_w, i32_w]
      rfl
    refine pure_ (i := 10) (N := some 80) (v := ?_) (a' := ?_) #[true, true, true, true, true, true, true, true, true, true, true, false, false, false] rfl rfl (by kernel_rfl) (fun _ _ _ h => h) (Or.inl ⟨by rfl, ?_⟩) ?_ ?_
    rotate_left
    · intro w'
      go_simp
      with_reducible rfl
    rotate_left
    · simp only [Act.put, List.setIfInBounds_toArray, List.set_cons_zero, List.set_cons_succ, i64_w, i32_w]
      rfl
    refine one_ (i := 11) (N := some 81) #[true, true, true, true, true, true, true, true, true, true, true, true, false, false] rfl rfl (by kernel_rfl) (by decide) (fun K hK => ?_)
    refine goes_ Try.func8 (by kernel_rfl) rfl #[] (by rfl) rfl rfl (by first | rfl | (simp only [List.map_toArray, List.map_cons, List.map_nil]; done) | (simp only [List.map_toArray, List.map_cons, List.map_nil]; rfl)) ?_
    refine (lives_calls _).mono ?_
    rintro e_ w81 ⟨rfl, hB_⟩
    refine ⟨_, rfl, ?_⟩
    refine hK.out _ _ ⟨pw_cell_below hB_ hHeld.1, pw_cell_below hB_ hHeld.2.1, pw_cell_below hB_ hHeld.2.2.1, pw_cell_below hB_ hHeld.2.2.2.1, pw_cell_below hB_ hHeld.2.2.2.2.1, pw_cell_below hB_ hHeld.2.2.2.2.2.1, pw_cell_below hB_ hHeld.2.2.2.2.2.2.1, ⟨below_then hHeld.2.2.2.2.2.2.2.out hHeld.2.2.2.2.2.2.2.out.size hB_⟩⟩ (fun hHeld => ?_)
    clear hK K
    refine norm_ (a' := ?_) ?_ ?_
    rotate_left
    · show Act.put _ (some 81) _ = _
      simp only [Act.put, List.setIfInBounds_toArray, List.set_cons_zero, List.set_cons_succ, i64_w, i32_w]
      rfl
    refine pure_ (i := 12) (N := some 82) (v := ?_) (a' := ?_) #[true, true, true, true, true, true, true, true, true, true, true, true, true, false] rfl rfl (by kernel_rfl) (fun _ _ _ h => h) (Or.inl ⟨by rfl, ?_⟩) ?_ ?_
    rotate_left
    · intro w'
      go_simp
      with_reducible rfl
    rotate_left
    · simp only [Act.put, List.setIfInBounds_toArray, List.set_cons_zero, List.set_cons_succ, i64_w, i32_w]
      rfl
    refine pure_ (i := 13) (N := some 6) (v := ?_) (a' := ?_) #[true, true, true, true, true, true, true, true, true, true, true, true, true, true] rfl rfl (by kernel_rfl) (fun _ _ _ h => h) (Or.inl ⟨by rfl, ?_⟩) ?_ ?_
    rotate_left
    · intro w'
      go_simp
      with_reducible rfl
    rotate_left
    · simp only [Act.put, List.setIfInBounds_toArray, List.set_cons_zero, List.set_cons_succ, i64_w, i32_w]
      rfl
    refine done_ (by kernel_rfl) ?_
    have HEND := Aside0.mk (below_step HBW.out hHeld.2.2.2.2.2.2.2.out)
    go_wp2_with fail
    all_goals (go_ret; exact ⟨rfl, HEND.out⟩)
  · have hgt1 : decide ((GS.length : Int) > 0) = false := decide_eq_false (by omega)
    have hgt2 : decide ((0 : Int) < (GS.length : Int)) = false := decide_eq_false (by omega)
    have hgt3 : decide (0 < GS.length) = false := decide_eq_false hG0
    have hju := HU1.out
    clear hG0
    go_upto_region 13 with fail
    have HBW : Aside0 (Below w.heap.size w w47) := ⟨(HLW7.out.keep HBX.out).below⟩
    have hrF := old_row HR47.out HBW.out
    have HT : Aside0 (TurnW w w7 w47 F FT GS GS AG cG A46 c46 g9) := ⟨⟨HBX.out, HQ47.out, hrF.2, Kd.C_below HGG.out HBW.out, hrF.1, HCG.out, HPF.out, List.Perm.refl _⟩⟩
    clear m0 m1 hrF
    obtain ⟨Aq, _, _, hAq, _⟩ := at_T47 HT.out.rowF 0 (Int.le_refl 0) (Int.ofNat_lt.2 (Nat.lt_of_lt_of_le HP0.out (Nat.le_of_eq HT.out.permF.length_eq.symm)))
    subst hAq
    have HOT := Aside0.mk (turn_ok HO.out.ok HT.out.permF HT.out.permG)
    have HNF := Aside0.mk (fun f hf => HO.out.fn f (HT.out.permF.mem_iff.1 hf))
    have HNG := Aside0.mk (fun g hg => HO.out.gn g (HT.out.permG.mem_iff.1 hg))
    have hx8 := blk_below HX8.out HT.out.low
    have hxq := HT.out.box
    have q0 : w47.cell? ⟨g9, 0, none⟩ = some (.slice AG GS.length cG) := (blk_cell hxq 0).trans rfl
    have q1 : w47.cell? ⟨g9, 1, none⟩ = some (.slice (some Aq) FT.length c46) := (blk_cell hxq 1).trans rfl
    have x0 : w47.cell? ⟨g8, 0, none⟩ = some (.int .i64 ea) := (blk_cell hx8 0).trans rfl
    have x1 : w47.cell? ⟨g8, 1, none⟩ = some (.int .i32 va) := (blk_cell hx8 1).trans rfl
    have x2 : w47.cell? ⟨g8, 2, none⟩ = some (.slice A6 Ga.tr.length c6) := (blk_cell hx8 2).trans rfl
    have x3 : w47.cell? ⟨g8, 3, none⟩ = some (.int .i64 (Ga.st : Int)) := (blk_cell hx8 3).trans rfl
    have x4 : w47.cell? ⟨g8, 4, none⟩ = some (.int .i64 (Ga.rd : Int)) := (blk_cell hx8 4).trans rfl
    have HIZ := Aside0.mk (Kd.C_below HIT.out HBW.out)
    have HI24 := Aside0.mk (Kd.C_below HI7.out HT.out.low)
    have HCAZ := Aside0.mk (Kd.C_below HCA7.out HT.out.low)
    clear hx8 hxq
    refine start_ (n := 14) (S := fun w_ => w_.cell? ⟨g9, 0, none⟩ = some (.slice AG GS.length cG) ∧ w_.cell? ⟨g9, 1, none⟩ = some (.slice (some Aq) FT.length c46) ∧ w_.cell? ⟨g8, 0, none⟩ = some (.int .i64 ea) ∧ w_.cell? ⟨g8, 1, none⟩ = some (.int .i32 va) ∧ w_.cell? ⟨g8, 2, none⟩ = some (.slice A6 Ga.tr.length c6) ∧ w_.cell? ⟨g8, 3, none⟩ = some (.int .i64 (Ga.st : Int)) ∧ w_.cell? ⟨g8, 4, none⟩ = some (.int .i64 (Ga.rd : Int)) ∧ Aside0 (Below w47.heap.size w47 w_)) (ds := []) #[false, false, false, false, false, false, false, false, false, false, false, false, false, false] (by kernel_rfl) rfl rfl ⟨q0, q1, x0, x1, x2, x3, x4, ⟨below_drew (Below.refl _ _)⟩⟩ (fun hHeld => ?_)
    refine take_ (i := 0) (N := some 70) (v := ?_) (a' := ?_) #[true, false, false, false, false, false, false, false, false, false, false, false, false, false] rfl rfl (by kernel_rfl) (fun _ _ _ h => h) (Or.inl ⟨by rfl, ?_⟩) hHeld ?_ ?_
    rotate_left
    · rintro w' ⟨h0_, h1_, h2_, h3_, h4_, h5_, h6_, h7_⟩
      go_simp
      with_reducible rfl
    rotate_left
    · simp only [Act.put, List.setIfInBounds_toArray, List.set_cons_zero, List.set_cons_succ, i64_w, i32_w]
      rfl
    refine pure_ (i := 1) (N := some 71) (v := ?_) (a' := ?_) #[true, true, false, false, false, false, false, false, false, false, false, false, false, false] rfl rfl (by kernel_rfl) (fun _ _ _ h => h) (Or.inl ⟨by rfl, ?_⟩) ?_ ?_
    rotate_left
    · intro w'
      go_simp
      with_reducible rfl
    rotate_left
    · simp only [Act.put, List.setIfInBounds_toArray, List.set_cons_zero, List.set_cons_succ, i64_w, i32_w]
      rfl
    refine take_ (i := 3) (N := some 73) (v := ?_) (a' := ?_) #[true, true, false, true, false, false, false, false, false, false, false, false, false, false] rfl rfl (by kernel_rfl) (fun _ _ _ h => h) (Or.inl ⟨by rfl, ?_⟩) hHeld ?_ ?_
    rotate_left
    · rintro w' ⟨h0_, h1_, h2_, h3_, h4_, h5_, h6_, h7_⟩
      go_simp
      with_reducible rfl
    rotate_left
    · simp only [Act.put, List.setIfInBounds_toArray, List.set_cons_zero, List.set_cons_succ, i64_w, i32_w]
      rfl
    refine one_ (i := 2) (N := some 72) #[true, true, true, true, false, false, false, false, false, false, false, false, false, false] rfl rfl (by kernel_rfl) (by decide) (fun K hK => ?_)
    refine goes_ Try.func10 (by kernel_rfl) rfl #[.agg #[.slice AG GS.length cG, .slice (some Aq) FT.length c46], .slice AI inp.length cI, .int .i64 400] (by rfl) rfl rfl (by first | rfl | (simp only [List.map_toArray, List.map_cons, List.map_nil]; done) | (simp only [List.map_toArray, List.map_cons, List.map_nil]; rfl)) ?_
    refine (trace_in hHeld.2.2.2.2.2.2.2.out HOT.out HNF.out HNG.out inp AI cI HT.out.rowG HT.out.rowF HIZ.out HT.out.capF HT.out.capG HCI.out HWI.out HL3.out).mono ?_
    rintro e_ w72 ⟨e2, v2, G2, A2, c2, hr2, rfl, hl2, hC2, hB_⟩; have HT5 := Aside0.mk (turn_run HO.out.ok HT.out.permF HT.out.permG inp 400 HA.out hr2); have HC72 := Aside0.mk hC2.now; have HL72 := Aside0.mk hl2; have HTR := Aside0.mk (Nat.le_trans (runT_tr hr2) (by decide : (400 : Int).toNat ≤ 1000000)); clear hr2 hl2 hC2
    refine ⟨_, rfl, ?_⟩
    refine hK.out _ _ ⟨pw_cell_below hB_ hHeld.1, pw_cell_below hB_ hHeld.2.1, pw_cell_below hB_ hHeld.2.2.1, pw_cell_below hB_ hHeld.2.2.2.1, pw_cell_below hB_ hHeld.2.2.2.2.1, pw_cell_below hB_ hHeld.2.2.2.2.2.1, pw_cell_below hB_ hHeld.2.2.2.2.2.2.1, ⟨below_then hHeld.2.2.2.2.2.2.2.out hHeld.2.2.2.2.2.2.2.out.size hB_⟩⟩ (fun hHeld => ?_)
    clear hK K
    refine norm_ (a' := ?_) ?_ ?_
    rotate_left
    · show Act.put _ (some 72) _ = _
      simp only [Act.put, List.setIfInBounds_toArray, List.set_cons_zero, List.set_cons_succ, i64_w, i32_w]
      rfl
    refine one_ (i := 4) (N := some 74) #[true, true, true, true, true, false, false, false, false, false, false, false, false, false] rfl rfl (by kernel_rfl) (by decide) (fun K hK => ?_)
    refine goes_ Try.func12 (by kernel_rfl) rfl #[.agg #[.int .i64 e2, .int .i32 v2, .slice A2 G2.tr.length c2, .int .i64 (G2.st : Int), .int .i64 (G2.rd : Int)], .agg #[.int .i64 ea, .int .i32 va, .slice A6 Ga.tr.length c6, .int .i64 (Ga.st : Int), .int .i64 (Ga.rd : Int)]] (by rfl) rfl rfl (by first | rfl | (simp only [List.map_toArray, List.map_cons, List.map_nil]; done) | (simp only [List.map_toArray, List.map_cons, List.map_nil]; rfl)) ?_
    refine (same_calls e2 v2 A2 c2 G2.tr (G2.st : Int) (G2.rd : Int) ea va A6 c6 Ga.tr (Ga.st : Int) (Ga.rd : Int) w72 HC72.out HL72.out (Kd.C_below HCAZ.out hHeld.2.2.2.2.2.2.2.out) HLA.out HTR.out).mono ?_
    rw [decide_eq_true (show e2 = ea ∧ v2 = va ∧ (G2.rd : Int) = (Ga.rd : Int) ∧ G2.tr = Ga.tr from ⟨HT5.out.1, HT5.out.2.1, by rw [HT5.out.2.2.2.2], HT5.out.2.2.1⟩)]; rintro e_ w74 ⟨rfl, hB_⟩
    refine ⟨_, rfl, ?_⟩
    refine hK.out _ _ ⟨pw_cell_below hB_ hHeld.1, pw_cell_below hB_ hHeld.2.1, pw_cell_below hB_ hHeld.2.2.1, pw_cell_below hB_ hHeld.2.2.2.1, pw_cell_below hB_ hHeld.2.2.2.2.1, pw_cell_below hB_ hHeld.2.2.2.2.2.1, pw_cell_below hB_ hHeld.2.2.2.2.2.2.1, ⟨below_then hHeld.2.2.2.2.2.2.2.out hHeld.2.2.2.2.2.2.2.out.size hB_⟩⟩ (fun hHeld => ?_)
    clear hK K
    refine norm_ (a' := ?_) ?_ ?_
    rotate_left
    · show Act.put _ (some 74) _ = _
      simp only [Act.put, List.setIfInBounds_toArray, List.set_cons_zero, List.set_cons_succ, i64_w, i32_w]
      rfl
    refine pure_ (i := 5) (N := some 75) (v := ?_) (a' := ?_) #[true, true, true, true, true, true, false, false, false, false, false, false, false, false] rfl rfl (by kernel_rfl) (fun _ _ _ h => h) (Or.inl ⟨by rfl, ?_⟩) ?_ ?_
    rotate_left
    · intro w'
      go_simp
      with_reducible rfl
    rotate_left
    · simp only [Act.put, List.setIfInBounds_toArray, List.set_cons_zero, List.set_cons_succ, i64_w, i32_w]
      rfl
    refine pure_ (i := 6) (N := some 76) (v := ?_) (a' := ?_) #[true, true, true, true, true, true, true, false, false, false, false, false, false, false] rfl rfl (by kernel_rfl) (fun _ _ _ h => h) (Or.inl ⟨by rfl, ?_⟩) ?_ ?_
    rotate_left
    · intro w'
      go_simp
      with_reducible rfl
    rotate_left
    · simp only [Act.put, List.setIfInBounds_toArray, List.set_cons_zero, List.set_cons_succ, i64_w, i32_w]
      rfl
    refine pure_ (i := 7) (N := some 77) (v := ?_) (a' := ?_) #[true, true, true, true, true, true, true, true, false, false, false, false, false, false] rfl rfl (by kernel_rfl) (fun _ _ _ h => h) (Or.inl ⟨by rfl, ?_⟩) ?_ ?_
    rotate_left
    · intro w'
      go_simp
      with_reducible rfl
    rotate_left
    · simp only [Act.put, List.setIfInBounds_toArray, List.set_cons_zero, List.set_cons_succ, i64_w, i32_w]
      rfl
    refine one_ (i := 8) (N := some 78) #[true, true, true, true, true, true, true, true, true, false, false, false, false, false] rfl rfl (by kernel_rfl) (by decide) (fun K hK => ?_)
    refine goes_ Try.func14 (by kernel_rfl) rfl #[.slice AI inp.length cI, .slice A24 inp.length c24] (by rfl) rfl rfl (by first | rfl | (simp only [List.map_toArray, List.map_cons, List.map_nil]; done) | (simp only [List.map_toArray, List.map_cons, List.map_nil]; rfl)) ?_
    refine (samewords_calls AI cI inp A24 c24 inp w74 (Kd.C_below HIZ.out hHeld.2.2.2.2.2.2.2.out) HCI.out (Kd.C_below HI24.out hHeld.2.2.2.2.2.2.2.out) HCC24.out (Nat.le_trans HL3.out (by decide))).mono ?_
    rw [decide_eq_true (show inp = inp from rfl)]; rintro e_ w78 ⟨rfl, hd_⟩; obtain ⟨k_, rfl⟩ := hd_.out; have hB_ := pw_below_drewN (Below.refl w74.heap.size w74) k_
    refine ⟨_, rfl, ?_⟩
    refine hK.out _ _ ⟨pw_cell_below hB_ hHeld.1, pw_cell_below hB_ hHeld.2.1, pw_cell_below hB_ hHeld.2.2.1, pw_cell_below hB_ hHeld.2.2.2.1, pw_cell_below hB_ hHeld.2.2.2.2.1, pw_cell_below hB_ hHeld.2.2.2.2.2.1, pw_cell_below hB_ hHeld.2.2.2.2.2.2.1, ⟨below_then hHeld.2.2.2.2.2.2.2.out hHeld.2.2.2.2.2.2.2.out.size hB_⟩⟩ (fun hHeld => ?_)
    clear hK K
    refine norm_ (a' := ?_) ?_ ?_
    rotate_left
    · show Act.put _ (some 78) _ = _
      simp only [Act.put, List.setIfInBounds_toArray, List.set_cons_zero, List.set_cons_succ, i64_w, i32_w]
      rfl
    refine pure_ (i := 9) (N := some 79) (v := ?_) (a' := ?_) #[true, true, true, true, true, true, true, true, true, true, false, false, false, false] rfl rfl (by kernel_rfl) (fun _ _ _ h => h) (Or.inl ⟨by rfl, ?_⟩) ?_ ?_
    rotate_left
    · intro w'
      go_simp
      with_reducible rfl
    rotate_left
    · simp only [Act.put, List.setIfInBounds_toArray, List.set_cons_zero, List.set_cons_succ, i64_w, i32_w]
      rfl
    refine pure_ (i := 10) (N := some 80) (v := ?_) (a' := ?_) #[true, true, true, true, true, true, true, true, true, true, true, false, false, false] rfl rfl (by kernel_rfl) (fun _ _ _ h => h) (Or.inl ⟨by rfl, ?_⟩) ?_ ?_
    rotate_left
    · intro w'
      go_simp
      with_reducible rfl
    rotate_left
    · simp only [Act.put, List.setIfInBounds_toArray, List.set_cons_zero, List.set_cons_succ, i64_w, i32_w]
      rfl
    refine one_ (i := 11) (N := some 81) #[true, true, true, true, true, true, true, true, true, true, true, true, false, false] rfl rfl (by kernel_rfl) (by decide) (fun K hK => ?_)
    refine goes_ Try.func8 (by kernel_rfl) rfl #[] (by rfl) rfl rfl (by first | rfl | (simp only [List.map_toArray, List.map_cons, List.map_nil]; done) | (simp only [List.map_toArray, List.map_cons, List.map_nil]; rfl)) ?_
    refine (lives_calls _).mono ?_
    rintro e_ w81 ⟨rfl, hB_⟩
    refine ⟨_, rfl, ?_⟩
    refine hK.out _ _ ⟨pw_cell_below hB_ hHeld.1, pw_cell_below hB_ hHeld.2.1, pw_cell_below hB_ hHeld.2.2.1, pw_cell_below hB_ hHeld.2.2.2.1, pw_cell_below hB_ hHeld.2.2.2.2.1, pw_cell_below hB_ hHeld.2.2.2.2.2.1, pw_cell_below hB_ hHeld.2.2.2.2.2.2.1, ⟨below_then hHeld.2.2.2.2.2.2.2.out hHeld.2.2.2.2.2.2.2.out.size hB_⟩⟩ (fun hHeld => ?_)
    clear hK K
    refine norm_ (a' := ?_) ?_ ?_
    rotate_left
    · show Act.put _ (some 81) _ = _
      simp only [Act.put, List.setIfInBounds_toArray, List.set_cons_zero, List.set_cons_succ, i64_w, i32_w]
      rfl
    refine pure_ (i := 12) (N := some 82) (v := ?_) (a' := ?_) #[true, true, true, true, true, true, true, true, true, true, true, true, true, false] rfl rfl (by kernel_rfl) (fun _ _ _ h => h) (Or.inl ⟨by rfl, ?_⟩) ?_ ?_
    rotate_left
    · intro w'
      go_simp
      with_reducible rfl
    rotate_left
    · simp only [Act.put, List.setIfInBounds_toArray, List.set_cons_zero, List.set_cons_succ, i64_w, i32_w]
      rfl
    refine pure_ (i := 13) (N := some 6) (v := ?_) (a' := ?_) #[true, true, true, true, true, true, true, true, true, true, true, true, true, true] rfl rfl (by kernel_rfl) (fun _ _ _ h => h) (Or.inl ⟨by rfl, ?_⟩) ?_ ?_
    rotate_left
    · intro w'
      go_simp
      with_reducible rfl
    rotate_left
    · simp only [Act.put, List.setIfInBounds_toArray, List.set_cons_zero, List.set_cons_succ, i64_w, i32_w]
      rfl
    refine done_ (by kernel_rfl) ?_
    have HEND := Aside0.mk (below_step HBW.out hHeld.2.2.2.2.2.2.2.out)
    go_wp2_with fail
    all_goals (go_ret; exact ⟨rfl, HEND.out⟩)
end Go.Proofs.Ytabkinlpbefjgaa.L

namespace Go.Proofs.Ytabkinlpbefjgaa.L
open Go.RowKit Go.Proofs.Ytabkinlpbefjgaa.X Go.Proofs.YtabkinlpbefjgaaW.PrintWords Go.Proofs.YtabkinlpbefjgaaW.PrintLast Go.Proofs.YtabkinlpbefjgaaW.PrintMore
attribute [local go_sem] max2_int min2_int max_two min_two max_three min_three max_four min_four   -- for this text's walks alone
set_option linter.unusedVariables false
set_option linter.unusedSimpArgs false
open Go.Proofs.Ytabkinlpbefjgaa.Pure
def ok57 (x : S57) : Prop := x.f0.size ≤ maxLen ∧ (Lit.int .i64 x.f1).wf = true
theorem opens57 : Opens Try.prog 57 k57 ok57 := by
  have h := Opens.struct (β := S57) Try.underlying57 (by kernel_rfl) (OpensSeq.cons (Opens.string Try.underlying9 (by kernel_rfl)) (by kernel_rfl) (OpensSeq.one (Opens.int .i64 Try.underlying3 (by kernel_rfl)))) (fun x : S57 => (x.f0, x.f1)) (fun a => ⟨a.1, a.2⟩) (fun a => rfl)
  exact h
def ok44 (x : S44) : Prop := (Lit.int .i64 x.f0).wf = true ∧ (Lit.int .i64 x.f1).wf = true ∧ (Lit.int .i64 x.f2).wf = true ∧ (Lit.int .i64 x.f3).wf = true ∧ (Lit.int .i64 x.f4).wf = true ∧ (Lit.int .i32 x.f5).wf = true ∧ x.f6.size ≤ maxLen ∧ (x.f7.length ≤ maxLen ∧ ∀ y ∈ x.f7, (Lit.int .i64 y).wf = true)
theorem opens44 : Opens Try.prog 44 k44 ok44 := by
  have h := Opens.struct (β := S44) Try.underlying44 (by kernel_rfl) (OpensSeq.cons (Opens.int .i64 Try.underlying3 (by kernel_rfl)) (by kernel_rfl) (OpensSeq.cons (Opens.int .i64 Try.underlying3 (by kernel_rfl)) (by kernel_rfl) (OpensSeq.cons (Opens.int .i64 Try.underlying3 (by kernel_rfl)) (by kernel_rfl) (OpensSeq.cons (Opens.int .i64 Try.underlying3 (by kernel_rfl)) (by kernel_rfl) (OpensSeq.cons (Opens.int .i64 Try.underlying3 (by kernel_rfl)) (by kernel_rfl) (OpensSeq.cons (Opens.int .i32 Try.underlying21 (by kernel_rfl)) (by kernel_rfl) (OpensSeq.cons (Opens.string Try.underlying9 (by kernel_rfl)) (by kernel_rfl) (OpensSeq.one (Opens.slice Try.underlying42 (by kernel_rfl) (Opens.int .i64 Try.underlying3 (by kernel_rfl))))))))))) (fun x : S44 => (x.f0, x.f1, x.f2, x.f3, x.f4, x.f5, x.f6, x.f7)) (fun a => ⟨a.1, a.2.1, a.2.2.1, a.2.2.2.1, a.2.2.2.2.1, a.2.2.2.2.2.1, a.2.2.2.2.2.2.1, a.2.2.2.2.2.2.2⟩) (fun a => rfl)
  exact h
def ok41 (x : S41) : Prop := (x.f0.length ≤ maxLen ∧ ∀ y ∈ x.f0, ok44 y) ∧ (Lit.int .i64 x.f1).wf = true ∧ (Lit.int .i64 x.f2).wf = true ∧ (Lit.int .i64 x.f3).wf = true ∧ (Lit.int .i64 x.f4).wf = true
theorem opens41 : Opens Try.prog 41 k41 ok41 := by
  have h := Opens.struct (β := S41) Try.underlying41 (by kernel_rfl) (OpensSeq.cons (Opens.slice Try.underlying39 (by kernel_rfl) (opens44)) (by kernel_rfl) (OpensSeq.cons (Opens.int .i64 Try.underlying3 (by kernel_rfl)) (by kernel_rfl) (OpensSeq.cons (Opens.int .i64 Try.underlying3 (by kernel_rfl)) (by kernel_rfl) (OpensSeq.cons (Opens.int .i64 Try.underlying3 (by kernel_rfl)) (by kernel_rfl) (OpensSeq.one (Opens.int .i64 Try.underlying3 (by kernel_rfl))))))) (fun x : S41 => (x.f0, x.f1, x.f2, x.f3, x.f4)) (fun a => ⟨a.1, a.2.1, a.2.2.1, a.2.2.2.1, a.2.2.2.2⟩) (fun a => rfl)
  exact h
def ok47 (x : S47) : Prop := x.f0.size ≤ maxLen ∧ (Lit.int .i64 x.f1).wf = true ∧ (Lit.int .i64 x.f2).wf = true ∧ (x.f3.length ≤ maxLen ∧ ∀ y ∈ x.f3, ok41 y)
theorem opens47 : Opens Try.prog 47 k47 ok47 := by
  have h := Opens.struct (β := S47) Try.underlying47 (by kernel_rfl) (OpensSeq.cons (Opens.string Try.underlying9 (by kernel_rfl)) (by kernel_rfl) (OpensSeq.cons (Opens.int .i64 Try.underlying3 (by kernel_rfl)) (by kernel_rfl) (OpensSeq.cons (Opens.int .i64 Try.underlying3 (by kernel_rfl)) (by kernel_rfl) (OpensSeq.one (Opens.slice Try.underlying45 (by kernel_rfl) (opens41)))))) (fun x : S47 => (x.f0, x.f1, x.f2, x.f3)) (fun a => ⟨a.1, a.2.1, a.2.2.1, a.2.2.2⟩) (fun a => rfl)
  exact h
structure S25 where
  f0 : List S57
  f1 : List S47
def k25 : Kd S25 := Kd.iso (Kd.pair (Kd.slice 57 k57) (Kd.slice 47 k47)) (fun x : S25 => (x.f0, x.f1))
def ok25 (x : S25) : Prop := (x.f0.length ≤ maxLen ∧ ∀ y ∈ x.f0, ok57 y) ∧ (x.f1.length ≤ maxLen ∧ ∀ y ∈ x.f1, ok47 y)
theorem opens25 : Opens Try.prog 25 k25 ok25 := by
  have h := Opens.struct (β := S25) Try.underlying25 (by kernel_rfl) (OpensSeq.cons (Opens.slice Try.underlying22 (by kernel_rfl) (opens57)) (by kernel_rfl) (OpensSeq.one (Opens.slice Try.underlying23 (by kernel_rfl) (opens47)))) (fun x : S25 => (x.f0, x.f1)) (fun a => ⟨a.1, a.2⟩) (fun a => rfl)
  exact h
theorem k25_open {w : World} {x : S25} {cs : List Value} (h : k25.K w x cs) : ∃ A0 c0 A1 c1, cs = [.slice A0 x.f0.length c0, .slice A1 x.f1.length c1] ∧ x.f0.length ≤ c0 ∧ Kd.C k57 w A0 x.f0.length x.f0 ∧ x.f1.length ≤ c1 ∧ Kd.C k47 w A1 x.f1.length x.f1 := by
  obtain ⟨_, _, rfl, ⟨A0, c0, rfl, l0, g0⟩, ⟨A1, c1, rfl, l1, g1⟩⟩ := h
  exact ⟨A0, c0, A1, c1, rfl, l0, g0, l1, g1⟩
theorem ok25_num {x : S25} (h : ok25 x) : ∀ f ∈ x.f1, ∀ b ∈ f.f3, ∀ y ∈ b.f0, W32 y.f5 := by
  intro f hf b hb y hy
  have h1 := ((h.2.2 f hf).2.2.2.2 b hb).1.2 y hy
  have h2 := (Lit.wf_int_iff .i32 y.f5).1 h1.2.2.2.2.2.1
  exact h2
theorem ok_i32 {l : List Int} (h : ∀ y ∈ l, (Lit.int .i32 y).wf = true) : ∀ v ∈ l, W32 v := fun v hv => (Lit.wf_int_iff .i32 v).1 (h v hv)
end Go.Proofs.Ytabkinlpbefjgaa.L

namespace Go.Proofs.Ytabkinlpbefjgaa.L
open Go.RowKit Go.Proofs.Ytabkinlpbefjgaa.X Go.Proofs.YtabkinlpbefjgaaW.PrintWords Go.Proofs.YtabkinlpbefjgaaW.PrintLast Go.Proofs.YtabkinlpbefjgaaW.PrintMore
attribute [local go_sem] max2_int min2_int max_two min_two max_three min_three max_four min_four   -- for this text's walks alone
set_option linter.unusedVariables false
set_option linter.unusedSimpArgs false
open Go.Proofs.Ytabkinlpbefjgaa.Pure
theorem turned_row (x : S25) (AG : Option Addr) (cG : Nat) (AF : Option Addr) (cF : Nat) (AI : Option Addr) (cI : Nat) (l : List Int) (n : Int) (w : World) (hG : Kd.C k57 w AG x.f0.length x.f0) (hcG : x.f0.length ≤ cG) (hF : Kd.C k47 w AF x.f1.length x.f1) (hcF : x.f1.length ≤ cF) (hI : (Kd.int .i32).C w AI l.length l) (hcI : l.length ≤ cI) (h25 : ok25 x) (h32 : ∀ y ∈ l, (Lit.int .i32 y).wf = true) (hn : (Lit.int .u64 n).wf = true) :
    Calls Try.prog 5 #[.agg #[.slice AG x.f0.length cG, .slice AF x.f1.length cF], .slice AI l.length cI, .int .u64 n] w fun e w' => e = .returned (.bool true) ∧ Below w.heap.size w w' :=
  turned_calls x.f0 x.f1 AG cG AF cF AI cI l n w hG hcG hF hcF hI hcI (ok25_num h25) (ok_i32 h32) ((Lit.wf_int_iff .u64 n).1 hn)
end Go.Proofs.Ytabkinlpbefjgaa.L

