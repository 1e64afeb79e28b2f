/- Texts of this seat that a claim bears, put together by this session's own program shake.py: TrRb. -/
import Derived.Test.YtabkinlpbefjgaaKps
import Derived.Test.YtabkinlpbefjgaaKd17
namespace Go.Proofs.Ytabkinlpbefjgaa.L
open Go.RowKit Go.Proofs.Ytabkinlpbefjgaa.X Go.Proofs.YtabkinlpbefjgaaW.PrintWords Go.Proofs.YtabkinlpbefjgaaW.PrintLast Go.Proofs.YtabkinlpbefjgaaW.PrintMore
attribute [local go_sem] max2_int min2_int max_two min_two max_three min_three max_four min_four   -- for this text's walks alone
set_option linter.unusedVariables false
set_option linter.unusedSimpArgs false
open Go.Proofs.Ytabkinlpbefjgaa.Pure
@[reducible] def rE (AG : Option Addr) (cG : Nat) (GS : List S57) (AF : Option Addr) (cF : Nat) (F : List S47) (db cD : Nat) (iv : Value) (fuel : Int) : RE := ⟨.slice AG GS.length cG, .slice AF F.length cF, .slice (some ⟨db, 0, none⟩) GS.length cD, iv, fuel⟩
set_option maxHeartbeats 4000000 in
set_option maxRecDepth 100000 in
theorem rindex_neg (AG : Option Addr) (cG : Nat) (GS : List S57) (AF : Option Addr) (cF : Nat) (F : List S47) (db cD : Nat) (iv : Value) (fuel : Int) (c va : Int) (tv : Value) (st rd : Nat) (W : World) (g : Nat) (hb : W.heap[g]? = some (.cells (rC (rE AG cG GS AF cF F db cD iv fuel) ⟨c, 0, va, tv, st, rd⟩) 61 (0, 0))) (hG : Kd.C k57 W AG GS.length GS) (hcG : GS.length ≤ cG) (hF : Kd.C k47 W AF F.length F) (hcF : F.length ≤ cF) (hfew : GS.length ≤ 1000) (rb : Nat) (regs : List Int) (n : Nat) (hn : regs.length = n) (hr : W.heap[rb]? = some (.cells (row32 regs) 21 (0, 0))) (x : S44) (av : Value) (hav : av.oneCell' = true) (hgi : glAt GS x.f6 < GS.length) (wb wl : Nat) (hd : W.cell? ⟨db, glAt GS x.f6, none⟩ = some (.slice (some ⟨wb, 0, none⟩) wl wl)) (hcD : GS.length ≤ cD) (hwl : wl ≤ 1000000) (hx3 : x.f3 < 0) (hw : 0 < wl) :
    Calls Try.prog 42 #[.pointer (some ⟨g, 0, none⟩), .slice (some ⟨rb, 0, none⟩) n n, .agg (xC x av)] W fun e w' => e = .returned (.tuple #[.int .i64 (glAt GS x.f6 : Int), .int .i64 0, .bool true]) ∧ Below W.heap.size W w' := by
  have HB := Aside0.mk hb
  have HG_ := Aside0.mk hG
  have HF_ := Aside0.mk hF
  have HCG := Aside0.mk hcG
  have HCF := Aside0.mk hcF
  have HFEW := Aside0.mk (Nat.le_trans hfew (by decide : 1000 ≤ 1000000))
  have HPOS : Aside0 (posOf (glAt GS x.f6) GS.length = (glAt GS x.f6 : Int)) := ⟨if_pos hgi⟩
  have HD := Aside0.mk hd
  have hltg := blk_lt hb
  have hltr := blk_lt hr
  have d1 : decide (x.f3 ≥ 0) = false := decide_eq_false (by omega)
  have d2 : decide (0 ≤ x.f3) = false := decide_eq_false (by omega)
  have d3 : decide ((wl : Int) ≤ 0) = false := decide_eq_false (by omega)
  have d4 : decide (wl = 0) = false := decide_eq_false (by omega)
  have d5 : ¬ wl = 0 := by omega
  have hgic : (glAt GS x.f6 : Int) < (GS.length : Int) := by omega
  obtain ⟨gi, hgi2⟩ : ∃ gi, glAt GS x.f6 = gi := ⟨_, rfl⟩
  have HGI2 := Aside0.mk hgi2
  rw [hgi2] at HPOS HD hgi hgic ⊢
  clear hgi2
  clear hb hd hG hF hcG hcF hfew
  clear hr hn
  unfold xC
  go_enter Try.func42, Try.ntmps42
  go_wp2
  have HT1 : Aside0 (Below W.heap.size W (W.alloc (.cells #[.int .i64 x.f0, .int .i64 x.f1, .int .i64 x.f2, .int .i64 x.f3, .int .i64 x.f4, .int .i32 x.f5, .string x.f6, av] 44))) := ⟨below_alloc (Below.refl _ _) _⟩
  have HB1 : Aside0 ((W.alloc (.cells #[.int .i64 x.f0, .int .i64 x.f1, .int .i64 x.f2, .int .i64 x.f3, .int .i64 x.f4, .int .i32 x.f5, .string x.f6, av] 44)).heap[g]? = some (.cells (rC (rE AG cG GS AF cF F db cD iv fuel) ⟨c, 0, va, tv, st, rd⟩) 61 (0, 0))) := ⟨blk_alloc HB.out _⟩
  have HX1 : Aside0 ((W.alloc (.cells #[.int .i64 x.f0, .int .i64 x.f1, .int .i64 x.f2, .int .i64 x.f3, .int .i64 x.f4, .int .i32 x.f5, .string x.f6, av] 44)).heap[W.heap.size]? = some (.cells #[.int .i64 x.f0, .int .i64 x.f1, .int .i64 x.f2, .int .i64 x.f3, .int .i64 x.f4, .int .i32 x.f5, .string x.f6, av] 44)) := ⟨blk_new _ _⟩
  generalize W.alloc (.cells #[.int .i64 x.f0, .int .i64 x.f1, .int .i64 x.f2, .int .i64 x.f3, .int .i64 x.f4, .int .i32 x.f5, .string x.f6, av] 44) = w1 at HT1 HB1 HX1 ⊢
  have m0 : w1.cell? ⟨g, 0, none⟩ = some (.slice AG GS.length cG) := (blk_cell HB1.out 0).trans rfl
  have m1 : w1.cell? ⟨g, 1, none⟩ = some (.slice AF F.length cF) := (blk_cell HB1.out 1).trans rfl
  have q6 : w1.cell? ⟨W.heap.size, 6, none⟩ = some (.string x.f6) := (blk_cell HX1.out 6).trans rfl
  refine start_ (n := 8) (S := fun w_ => w_.cell? ⟨g, 0, none⟩ = some (.slice AG GS.length cG) ∧ w_.cell? ⟨g, 1, none⟩ = some (.slice AF F.length cF) ∧ w_.cell? ⟨W.heap.size, 6, none⟩ = some (.string x.f6) ∧ Aside0 (Below w1.heap.size w1 w_)) (ds := []) #[false, false, false, false, false, false, false, false] (by kernel_rfl) rfl rfl ⟨m0, m1, q6, ⟨below_drew (Below.refl _ _)⟩⟩ (fun hHeld => ?_)
  refine pure_ (i := 0) (N := some 11) (v := ?_) (a' := ?_) #[true, false, false, false, false, false, false, false] rfl rfl (by kernel_rfl) (fun _ _ _ h => h) (Or.inl ⟨by rfl, ?_⟩) ?_ ?_
  rotate_left
  · intro w'
    go_simp
    with_reducible rfl
  rotate_left
  · simp only [ps_]
    rfl
  refine pure_ (i := 1) (N := some 12) (v := ?_) (a' := ?_) #[true, true, false, false, false, false, false, false] rfl rfl (by kernel_rfl) (fun _ _ _ h => h) (Or.inl ⟨by rfl, ?_⟩) ?_ ?_
  rotate_left
  · intro w'
    go_simp
    with_reducible rfl
  rotate_left
  · simp only [ps_]
    rfl
  refine pure_ (i := 2) (N := some 13) (v := ?_) (a' := ?_) #[true, true, true, false, false, false, false, false] rfl rfl (by kernel_rfl) (fun _ _ _ h => h) (Or.inl ⟨by rfl, ?_⟩) ?_ ?_
  rotate_left
  · intro w'
    go_simp
    with_reducible rfl
  rotate_left
  · simp only [ps_]
    rfl
  refine take_ (i := 3) (N := some 14) (v := ?_) (a' := ?_) #[true, true, true, true, false, false, false, false] rfl rfl (by kernel_rfl) (fun _ _ _ h => h) (Or.inl ⟨by rfl, ?_⟩) hHeld ?_ ?_
  rotate_left
  · rintro w' ⟨h0_, h1_, h2_, h3_⟩
    go_simp
    with_reducible rfl
  rotate_left
  · simp only [ps_]
    rfl
  refine pure_ (i := 4) (N := some 15) (v := ?_) (a' := ?_) #[true, true, true, true, true, false, false, false] rfl rfl (by kernel_rfl) (fun _ _ _ h => h) (Or.inl ⟨by rfl, ?_⟩) ?_ ?_
  rotate_left
  · intro w'
    go_simp
    with_reducible rfl
  rotate_left
  · simp only [ps_]
    rfl
  refine take_ (i := 5) (N := some 16) (v := ?_) (a' := ?_) #[true, true, true, true, true, true, false, false] rfl rfl (by kernel_rfl) (fun _ _ _ h => h) (Or.inl ⟨by rfl, ?_⟩) hHeld ?_ ?_
  rotate_left
  · rintro w' ⟨h0_, h1_, h2_, h3_⟩
    go_simp
    with_reducible rfl
  rotate_left
  · simp only [ps_]
    rfl
  refine one_ (i := 6) (N := some 17) #[true, true, true, true, true, true, true, false] rfl rfl (by kernel_rfl) (by decide) (fun K hK => ?_)
  refine goes_ Try.func20 (by kernel_rfl) rfl #[.agg #[.slice AG GS.length cG, .slice AF F.length cF], .string x.f6] (by rfl) rfl rfl (by first | rfl | (simp only [List.map_toArray, List.map_cons, List.map_nil]; done) | (simp only [List.map_toArray, List.map_cons, List.map_nil]; rfl)) ?_
  refine (glat_calls AG cG GS AF cF F x.f6 _ (Kd.C_below HG_.out (below_step HT1.out hHeld.2.2.2.out)) HCG.out (Kd.C_below HF_.out (below_step HT1.out hHeld.2.2.2.out)) HCF.out HFEW.out).mono ?_
  rw [HGI2.out, HPOS.out]; rintro e_ w2 ⟨rfl, hB_⟩; have HT2 := Aside0.mk (below_then hHeld.2.2.2.out hHeld.2.2.2.out.size hB_)
  refine ⟨_, rfl, ?_⟩
  refine hK.out _ _ ⟨pw_cell_below hB_ hHeld.1, pw_cell_below hB_ hHeld.2.1, pw_cell_below hB_ hHeld.2.2.1, ⟨below_then hHeld.2.2.2.out hHeld.2.2.2.out.size hB_⟩⟩ (fun hHeld => ?_)
  clear hK K
  refine norm_ (a' := ?_) ?_ ?_
  rotate_left
  · show Act.put _ (some 17) _ = _
    simp only [ps_]
    rfl
  refine pure_ (i := 7) (N := some 9) (v := ?_) (a' := ?_) #[true, true, true, true, true, true, true, true] rfl rfl (by kernel_rfl) (fun _ _ _ h => h) (Or.inl ⟨by rfl, ?_⟩) ?_ ?_
  rotate_left
  · intro w'
    go_simp
    with_reducible rfl
  rotate_left
  · simp only [ps_]
    rfl
  refine done_ (by kernel_rfl) ?_
  have HTW := Aside0.mk (below_step HT1.out HT2.out)
  have HB2 := Aside0.mk (blk_below HB1.out HT2.out)
  have HX2 := Aside0.mk (blk_below HX1.out HT2.out)
  clear m0 m1 q6
  have m2 : w2.cell? ⟨g, 2, none⟩ = some (.slice (some ⟨db, 0, none⟩) GS.length cD) := (blk_cell HB2.out 2).trans rfl
  have m6 : w2.cell? ⟨g, 6, none⟩ = some (.int .i64 0) := (blk_cell HB2.out 6).trans rfl
  have fm6 := blk_frozen HB2.out 6
  have q3 : w2.cell? ⟨W.heap.size, 3, none⟩ = some (.int .i64 x.f3) := (blk_cell HX2.out 3).trans rfl
  have hd2 : w2.cell? ⟨db, gi, none⟩ = some (.slice (some ⟨wb, 0, none⟩) wl wl) := pw_cell_below HTW.out HD.out
  go_wp2
  refine bodyPost_ret (v := .tuple #[.int .i64 (gi : Int), .int .i64 0, .bool true]) ?_ rfl ⟨rfl, HTW.out⟩
  simp [results, Try.results42, go_sem]
set_option maxHeartbeats 4000000 in
set_option maxRecDepth 100000 in
theorem rindex_in (AG : Option Addr) (cG : Nat) (GS : List S57) (AF : Option Addr) (cF : Nat) (F : List S47) (db cD : Nat) (iv : Value) (fuel : Int) (c va : Int) (tv : Value) (st rd : Nat) (W : World) (g : Nat) (hb : W.heap[g]? = some (.cells (rC (rE AG cG GS AF cF F db cD iv fuel) ⟨c, 0, va, tv, st, rd⟩) 61 (0, 0))) (hG : Kd.C k57 W AG GS.length GS) (hcG : GS.length ≤ cG) (hF : Kd.C k47 W AF F.length F) (hcF : F.length ≤ cF) (hfew : GS.length ≤ 1000) (rb : Nat) (regs : List Int) (n : Nat) (hn : regs.length = n) (hr : W.heap[rb]? = some (.cells (row32 regs) 21 (0, 0))) (x : S44) (av : Value) (hav : av.oneCell' = true) (hgi : glAt GS x.f6 < GS.length) (wb wl : Nat) (hd : W.cell? ⟨db, glAt GS x.f6, none⟩ = some (.slice (some ⟨wb, 0, none⟩) wl wl)) (hcD : GS.length ≤ cD) (hwl : wl ≤ 1000000) (h0 : 0 ≤ x.f3) (h1 : x.f3 < (n : Int)) (hi0 : 0 ≤ get32 regs x.f3) (hi1 : get32 regs x.f3 < (wl : Int)) :
    Calls Try.prog 42 #[.pointer (some ⟨g, 0, none⟩), .slice (some ⟨rb, 0, none⟩) n n, .agg (xC x av)] W fun e w' => e = .returned (.tuple #[.int .i64 (glAt GS x.f6 : Int), .int .i64 (get32 regs x.f3), .bool true]) ∧ Below W.heap.size W w' := by
  have HB := Aside0.mk hb
  have HG_ := Aside0.mk hG
  have HF_ := Aside0.mk hF
  have HCG := Aside0.mk hcG
  have HCF := Aside0.mk hcF
  have HFEW := Aside0.mk (Nat.le_trans hfew (by decide : 1000 ≤ 1000000))
  have HPOS : Aside0 (posOf (glAt GS x.f6) GS.length = (glAt GS x.f6 : Int)) := ⟨if_pos hgi⟩
  have HD := Aside0.mk hd
  have hltg := blk_lt hb
  have hltr := blk_lt hr
  have d1 : decide (x.f3 ≥ 0) = true := decide_eq_true h0
  have d2 : decide (0 ≤ x.f3) = true := decide_eq_true h0
  have hr3 := row32_cell hr x.f3 h0 (by omega)
  obtain ⟨v, hv⟩ : ∃ v, get32 regs x.f3 = v := ⟨_, rfl⟩
  have h1n : x.f3 < (n : Int) := h1
  rw [hv] at hr3 hi0 hi1 ⊢
  have HR3 := Aside0.mk hr3
  have w3 : wrap64 v = v := w64 (by omega) (by omega)
  have d3 : decide (v < 0) = false := decide_eq_false (by omega)
  have d4 : decide (v ≥ (wl : Int)) = false := decide_eq_false (by omega)
  have d5 : decide ((wl : Int) ≤ v) = false := decide_eq_false (by omega)
  clear hr3 hv hr hn h1
  have hgic : (glAt GS x.f6 : Int) < (GS.length : Int) := by omega
  obtain ⟨gi, hgi2⟩ : ∃ gi, glAt GS x.f6 = gi := ⟨_, rfl⟩
  have HGI2 := Aside0.mk hgi2
  rw [hgi2] at HPOS HD hgi hgic ⊢
  clear hgi2
  clear hb hd hG hF hcG hcF hfew
  unfold xC
  go_enter Try.func42, Try.ntmps42
  go_wp2
  have HT1 : Aside0 (Below W.heap.size W (W.alloc (.cells #[.int .i64 x.f0, .int .i64 x.f1, .int .i64 x.f2, .int .i64 x.f3, .int .i64 x.f4, .int .i32 x.f5, .string x.f6, av] 44))) := ⟨below_alloc (Below.refl _ _) _⟩
  have HB1 : Aside0 ((W.alloc (.cells #[.int .i64 x.f0, .int .i64 x.f1, .int .i64 x.f2, .int .i64 x.f3, .int .i64 x.f4, .int .i32 x.f5, .string x.f6, av] 44)).heap[g]? = some (.cells (rC (rE AG cG GS AF cF F db cD iv fuel) ⟨c, 0, va, tv, st, rd⟩) 61 (0, 0))) := ⟨blk_alloc HB.out _⟩
  have HX1 : Aside0 ((W.alloc (.cells #[.int .i64 x.f0, .int .i64 x.f1, .int .i64 x.f2, .int .i64 x.f3, .int .i64 x.f4, .int .i32 x.f5, .string x.f6, av] 44)).heap[W.heap.size]? = some (.cells #[.int .i64 x.f0, .int .i64 x.f1, .int .i64 x.f2, .int .i64 x.f3, .int .i64 x.f4, .int .i32 x.f5, .string x.f6, av] 44)) := ⟨blk_new _ _⟩
  generalize W.alloc (.cells #[.int .i64 x.f0, .int .i64 x.f1, .int .i64 x.f2, .int .i64 x.f3, .int .i64 x.f4, .int .i32 x.f5, .string x.f6, av] 44) = w1 at HT1 HB1 HX1 ⊢
  have m0 : w1.cell? ⟨g, 0, none⟩ = some (.slice AG GS.length cG) := (blk_cell HB1.out 0).trans rfl
  have m1 : w1.cell? ⟨g, 1, none⟩ = some (.slice AF F.length cF) := (blk_cell HB1.out 1).trans rfl
  have q6 : w1.cell? ⟨W.heap.size, 6, none⟩ = some (.string x.f6) := (blk_cell HX1.out 6).trans rfl
  refine start_ (n := 8) (S := fun w_ => w_.cell? ⟨g, 0, none⟩ = some (.slice AG GS.length cG) ∧ w_.cell? ⟨g, 1, none⟩ = some (.slice AF F.length cF) ∧ w_.cell? ⟨W.heap.size, 6, none⟩ = some (.string x.f6) ∧ Aside0 (Below w1.heap.size w1 w_)) (ds := []) #[false, false, false, false, false, false, false, false] (by kernel_rfl) rfl rfl ⟨m0, m1, q6, ⟨below_drew (Below.refl _ _)⟩⟩ (fun hHeld => ?_)
  refine pure_ (i := 0) (N := some 11) (v := ?_) (a' := ?_) #[true, false, false, false, false, false, false, false] rfl rfl (by kernel_rfl) (fun _ _ _ h => h) (Or.inl ⟨by rfl, ?_⟩) ?_ ?_
  rotate_left
  · intro w'
    go_simp
    with_reducible rfl
  rotate_left
  · simp only [ps_]
    rfl
  refine pure_ (i := 1) (N := some 12) (v := ?_) (a' := ?_) #[true, true, false, false, false, false, false, false] rfl rfl (by kernel_rfl) (fun _ _ _ h => h) (Or.inl ⟨by rfl, ?_⟩) ?_ ?_
  rotate_left
  · intro w'
    go_simp
    with_reducible rfl
  rotate_left
  · simp only [ps_]
    rfl
  refine pure_ (i := 2) (N := some 13) (v := ?_) (a' := ?_) #[true, true, true, false, false, false, false, false] rfl rfl (by kernel_rfl) (fun _ _ _ h => h) (Or.inl ⟨by rfl, ?_⟩) ?_ ?_
  rotate_left
  · intro w'
    go_simp
    with_reducible rfl
  rotate_left
  · simp only [ps_]
    rfl
  refine take_ (i := 3) (N := some 14) (v := ?_) (a' := ?_) #[true, true, true, true, false, false, false, false] rfl rfl (by kernel_rfl) (fun _ _ _ h => h) (Or.inl ⟨by rfl, ?_⟩) hHeld ?_ ?_
  rotate_left
  · rintro w' ⟨h0_, h1_, h2_, h3_⟩
    go_simp
    with_reducible rfl
  rotate_left
  · simp only [ps_]
    rfl
  refine pure_ (i := 4) (N := some 15) (v := ?_) (a' := ?_) #[true, true, true, true, true, false, false, false] rfl rfl (by kernel_rfl) (fun _ _ _ h => h) (Or.inl ⟨by rfl, ?_⟩) ?_ ?_
  rotate_left
  · intro w'
    go_simp
    with_reducible rfl
  rotate_left
  · simp only [ps_]
    rfl
  refine take_ (i := 5) (N := some 16) (v := ?_) (a' := ?_) #[true, true, true, true, true, true, false, false] rfl rfl (by kernel_rfl) (fun _ _ _ h => h) (Or.inl ⟨by rfl, ?_⟩) hHeld ?_ ?_
  rotate_left
  · rintro w' ⟨h0_, h1_, h2_, h3_⟩
    go_simp
    with_reducible rfl
  rotate_left
  · simp only [ps_]
    rfl
  refine one_ (i := 6) (N := some 17) #[true, true, true, true, true, true, true, false] rfl rfl (by kernel_rfl) (by decide) (fun K hK => ?_)
  refine goes_ Try.func20 (by kernel_rfl) rfl #[.agg #[.slice AG GS.length cG, .slice AF F.length cF], .string x.f6] (by rfl) rfl rfl (by first | rfl | (simp only [List.map_toArray, List.map_cons, List.map_nil]; done) | (simp only [List.map_toArray, List.map_cons, List.map_nil]; rfl)) ?_
  refine (glat_calls AG cG GS AF cF F x.f6 _ (Kd.C_below HG_.out (below_step HT1.out hHeld.2.2.2.out)) HCG.out (Kd.C_below HF_.out (below_step HT1.out hHeld.2.2.2.out)) HCF.out HFEW.out).mono ?_
  rw [HGI2.out, HPOS.out]; rintro e_ w2 ⟨rfl, hB_⟩; have HT2 := Aside0.mk (below_then hHeld.2.2.2.out hHeld.2.2.2.out.size hB_)
  refine ⟨_, rfl, ?_⟩
  refine hK.out _ _ ⟨pw_cell_below hB_ hHeld.1, pw_cell_below hB_ hHeld.2.1, pw_cell_below hB_ hHeld.2.2.1, ⟨below_then hHeld.2.2.2.out hHeld.2.2.2.out.size hB_⟩⟩ (fun hHeld => ?_)
  clear hK K
  refine norm_ (a' := ?_) ?_ ?_
  rotate_left
  · show Act.put _ (some 17) _ = _
    simp only [ps_]
    rfl
  refine pure_ (i := 7) (N := some 9) (v := ?_) (a' := ?_) #[true, true, true, true, true, true, true, true] rfl rfl (by kernel_rfl) (fun _ _ _ h => h) (Or.inl ⟨by rfl, ?_⟩) ?_ ?_
  rotate_left
  · intro w'
    go_simp
    with_reducible rfl
  rotate_left
  · simp only [ps_]
    rfl
  refine done_ (by kernel_rfl) ?_
  have HTW := Aside0.mk (below_step HT1.out HT2.out)
  have HB2 := Aside0.mk (blk_below HB1.out HT2.out)
  have HX2 := Aside0.mk (blk_below HX1.out HT2.out)
  clear m0 m1 q6
  have m2 : w2.cell? ⟨g, 2, none⟩ = some (.slice (some ⟨db, 0, none⟩) GS.length cD) := (blk_cell HB2.out 2).trans rfl
  have m6 : w2.cell? ⟨g, 6, none⟩ = some (.int .i64 0) := (blk_cell HB2.out 6).trans rfl
  have fm6 := blk_frozen HB2.out 6
  have q3 : w2.cell? ⟨W.heap.size, 3, none⟩ = some (.int .i64 x.f3) := (blk_cell HX2.out 3).trans rfl
  have hd2 : w2.cell? ⟨db, gi, none⟩ = some (.slice (some ⟨wb, 0, none⟩) wl wl) := pw_cell_below HTW.out HD.out
  have hr2 : w2.cell? ⟨rb, x.f3.toNat, none⟩ = some (.int .i32 v) := pw_cell_below HTW.out HR3.out
  go_wp2
  refine bodyPost_ret (v := .tuple #[.int .i64 (gi : Int), .int .i64 v, .bool true]) ?_ rfl ⟨rfl, HTW.out⟩
  simp [results, Try.results42, go_sem]
set_option maxHeartbeats 4000000 in
set_option maxRecDepth 100000 in
theorem rindex_low (AG : Option Addr) (cG : Nat) (GS : List S57) (AF : Option Addr) (cF : Nat) (F : List S47) (db cD : Nat) (iv : Value) (fuel : Int) (c va : Int) (tv : Value) (st rd : Nat) (W : World) (g : Nat) (hb : W.heap[g]? = some (.cells (rC (rE AG cG GS AF cF F db cD iv fuel) ⟨c, 0, va, tv, st, rd⟩) 61 (0, 0))) (hG : Kd.C k57 W AG GS.length GS) (hcG : GS.length ≤ cG) (hF : Kd.C k47 W AF F.length F) (hcF : F.length ≤ cF) (hfew : GS.length ≤ 1000) (rb : Nat) (regs : List Int) (n : Nat) (hn : regs.length = n) (hr : W.heap[rb]? = some (.cells (row32 regs) 21 (0, 0))) (x : S44) (av : Value) (hav : av.oneCell' = true) (hgi : glAt GS x.f6 < GS.length) (wb wl : Nat) (hd : W.cell? ⟨db, glAt GS x.f6, none⟩ = some (.slice (some ⟨wb, 0, none⟩) wl wl)) (hcD : GS.length ≤ cD) (hwl : wl ≤ 1000000) (h0 : 0 ≤ x.f3) (h1 : x.f3 < (n : Int)) (hi : get32 regs x.f3 < 0) (hi2 : -2147483648 ≤ get32 regs x.f3) :
    Calls Try.prog 42 #[.pointer (some ⟨g, 0, none⟩), .slice (some ⟨rb, 0, none⟩) n n, .agg (xC x av)] W fun e w' => e = .returned (.tuple #[.int .i64 0, .int .i64 0, .bool false]) ∧ Turned W w' g (rC (rE AG cG GS AF cF F db cD iv fuel) ⟨c, 3, va, tv, st, rd⟩) 61 := by
  have HB := Aside0.mk hb
  have HG_ := Aside0.mk hG
  have HF_ := Aside0.mk hF
  have HCG := Aside0.mk hcG
  have HCF := Aside0.mk hcF
  have HFEW := Aside0.mk (Nat.le_trans hfew (by decide : 1000 ≤ 1000000))
  have HPOS : Aside0 (posOf (glAt GS x.f6) GS.length = (glAt GS x.f6 : Int)) := ⟨if_pos hgi⟩
  have HD := Aside0.mk hd
  have hltg := blk_lt hb
  have hltr := blk_lt hr
  have d1 : decide (x.f3 ≥ 0) = true := decide_eq_true h0
  have d2 : decide (0 ≤ x.f3) = true := decide_eq_true h0
  have hr3 := row32_cell hr x.f3 h0 (by omega)
  obtain ⟨v, hv⟩ : ∃ v, get32 regs x.f3 = v := ⟨_, rfl⟩
  have h1n : x.f3 < (n : Int) := h1
  rw [hv] at hr3 hi hi2
  have HR3 := Aside0.mk hr3
  have w3 : wrap64 v = v := w64 (by omega) (by omega)
  have d3 : decide (v < 0) = true := decide_eq_true hi
  clear hr3 hv hr hn h1
  have hgic : (glAt GS x.f6 : Int) < (GS.length : Int) := by omega
  obtain ⟨gi, hgi2⟩ : ∃ gi, glAt GS x.f6 = gi := ⟨_, rfl⟩
  have HGI2 := Aside0.mk hgi2
  rw [hgi2] at HPOS HD hgi hgic
  clear hgi2
  clear hb hd hG hF hcG hcF hfew
  unfold xC
  go_enter Try.func42, Try.ntmps42
  go_wp2
  have HT1 : Aside0 (Below W.heap.size W (W.alloc (.cells #[.int .i64 x.f0, .int .i64 x.f1, .int .i64 x.f2, .int .i64 x.f3, .int .i64 x.f4, .int .i32 x.f5, .string x.f6, av] 44))) := ⟨below_alloc (Below.refl _ _) _⟩
  have HB1 : Aside0 ((W.alloc (.cells #[.int .i64 x.f0, .int .i64 x.f1, .int .i64 x.f2, .int .i64 x.f3, .int .i64 x.f4, .int .i32 x.f5, .string x.f6, av] 44)).heap[g]? = some (.cells (rC (rE AG cG GS AF cF F db cD iv fuel) ⟨c, 0, va, tv, st, rd⟩) 61 (0, 0))) := ⟨blk_alloc HB.out _⟩
  have HX1 : Aside0 ((W.alloc (.cells #[.int .i64 x.f0, .int .i64 x.f1, .int .i64 x.f2, .int .i64 x.f3, .int .i64 x.f4, .int .i32 x.f5, .string x.f6, av] 44)).heap[W.heap.size]? = some (.cells #[.int .i64 x.f0, .int .i64 x.f1, .int .i64 x.f2, .int .i64 x.f3, .int .i64 x.f4, .int .i32 x.f5, .string x.f6, av] 44)) := ⟨blk_new _ _⟩
  generalize W.alloc (.cells #[.int .i64 x.f0, .int .i64 x.f1, .int .i64 x.f2, .int .i64 x.f3, .int .i64 x.f4, .int .i32 x.f5, .string x.f6, av] 44) = w1 at HT1 HB1 HX1 ⊢
  have m0 : w1.cell? ⟨g, 0, none⟩ = some (.slice AG GS.length cG) := (blk_cell HB1.out 0).trans rfl
  have m1 : w1.cell? ⟨g, 1, none⟩ = some (.slice AF F.length cF) := (blk_cell HB1.out 1).trans rfl
  have q6 : w1.cell? ⟨W.heap.size, 6, none⟩ = some (.string x.f6) := (blk_cell HX1.out 6).trans rfl
  refine start_ (n := 8) (S := fun w_ => w_.cell? ⟨g, 0, none⟩ = some (.slice AG GS.length cG) ∧ w_.cell? ⟨g, 1, none⟩ = some (.slice AF F.length cF) ∧ w_.cell? ⟨W.heap.size, 6, none⟩ = some (.string x.f6) ∧ Aside0 (Below w1.heap.size w1 w_)) (ds := []) #[false, false, false, false, false, false, false, false] (by kernel_rfl) rfl rfl ⟨m0, m1, q6, ⟨below_drew (Below.refl _ _)⟩⟩ (fun hHeld => ?_)
  refine pure_ (i := 0) (N := some 11) (v := ?_) (a' := ?_) #[true, false, false, false, false, false, false, false] rfl rfl (by kernel_rfl) (fun _ _ _ h => h) (Or.inl ⟨by rfl, ?_⟩) ?_ ?_
  rotate_left
  · intro w'
    go_simp
    with_reducible rfl
  rotate_left
  · simp only [ps_]
    rfl
  refine pure_ (i := 1) (N := some 12) (v := ?_) (a' := ?_) #[true, true, false, false, false, false, false, false] rfl rfl (by kernel_rfl) (fun _ _ _ h => h) (Or.inl ⟨by rfl, ?_⟩) ?_ ?_
  rotate_left
  · intro w'
    go_simp
    with_reducible rfl
  rotate_left
  · simp only [ps_]
    rfl
  refine pure_ (i := 2) (N := some 13) (v := ?_) (a' := ?_) #[true, true, true, false, false, false, false, false] rfl rfl (by kernel_rfl) (fun _ _ _ h => h) (Or.inl ⟨by rfl, ?_⟩) ?_ ?_
  rotate_left
  · intro w'
    go_simp
    with_reducible rfl
  rotate_left
  · simp only [ps_]
    rfl
  refine take_ (i := 3) (N := some 14) (v := ?_) (a' := ?_) #[true, true, true, true, false, false, false, false] rfl rfl (by kernel_rfl) (fun _ _ _ h => h) (Or.inl ⟨by rfl, ?_⟩) hHeld ?_ ?_
  rotate_left
  · rintro w' ⟨h0_, h1_, h2_, h3_⟩
    go_simp
    with_reducible rfl
  rotate_left
  · simp only [ps_]
    rfl
  refine pure_ (i := 4) (N := some 15) (v := ?_) (a' := ?_) #[true, true, true, true, true, false, false, false] rfl rfl (by kernel_rfl) (fun _ _ _ h => h) (Or.inl ⟨by rfl, ?_⟩) ?_ ?_
  rotate_left
  · intro w'
    go_simp
    with_reducible rfl
  rotate_left
  · simp only [ps_]
    rfl
  refine take_ (i := 5) (N := some 16) (v := ?_) (a' := ?_) #[true, true, true, true, true, true, false, false] rfl rfl (by kernel_rfl) (fun _ _ _ h => h) (Or.inl ⟨by rfl, ?_⟩) hHeld ?_ ?_
  rotate_left
  · rintro w' ⟨h0_, h1_, h2_, h3_⟩
    go_simp
    with_reducible rfl
  rotate_left
  · simp only [ps_]
    rfl
  refine one_ (i := 6) (N := some 17) #[true, true, true, true, true, true, true, false] rfl rfl (by kernel_rfl) (by decide) (fun K hK => ?_)
  refine goes_ Try.func20 (by kernel_rfl) rfl #[.agg #[.slice AG GS.length cG, .slice AF F.length cF], .string x.f6] (by rfl) rfl rfl (by first | rfl | (simp only [List.map_toArray, List.map_cons, List.map_nil]; done) | (simp only [List.map_toArray, List.map_cons, List.map_nil]; rfl)) ?_
  refine (glat_calls AG cG GS AF cF F x.f6 _ (Kd.C_below HG_.out (below_step HT1.out hHeld.2.2.2.out)) HCG.out (Kd.C_below HF_.out (below_step HT1.out hHeld.2.2.2.out)) HCF.out HFEW.out).mono ?_
  rw [HGI2.out, HPOS.out]; rintro e_ w2 ⟨rfl, hB_⟩; have HT2 := Aside0.mk (below_then hHeld.2.2.2.out hHeld.2.2.2.out.size hB_)
  refine ⟨_, rfl, ?_⟩
  refine hK.out _ _ ⟨pw_cell_below hB_ hHeld.1, pw_cell_below hB_ hHeld.2.1, pw_cell_below hB_ hHeld.2.2.1, ⟨below_then hHeld.2.2.2.out hHeld.2.2.2.out.size hB_⟩⟩ (fun hHeld => ?_)
  clear hK K
  refine norm_ (a' := ?_) ?_ ?_
  rotate_left
  · show Act.put _ (some 17) _ = _
    simp only [ps_]
    rfl
  refine pure_ (i := 7) (N := some 9) (v := ?_) (a' := ?_) #[true, true, true, true, true, true, true, true] rfl rfl (by kernel_rfl) (fun _ _ _ h => h) (Or.inl ⟨by rfl, ?_⟩) ?_ ?_
  rotate_left
  · intro w'
    go_simp
    with_reducible rfl
  rotate_left
  · simp only [ps_]
    rfl
  refine done_ (by kernel_rfl) ?_
  have HTW := Aside0.mk (below_step HT1.out HT2.out)
  have HB2 := Aside0.mk (blk_below HB1.out HT2.out)
  have HX2 := Aside0.mk (blk_below HX1.out HT2.out)
  clear m0 m1 q6
  have m2 : w2.cell? ⟨g, 2, none⟩ = some (.slice (some ⟨db, 0, none⟩) GS.length cD) := (blk_cell HB2.out 2).trans rfl
  have m6 : w2.cell? ⟨g, 6, none⟩ = some (.int .i64 0) := (blk_cell HB2.out 6).trans rfl
  have fm6 := blk_frozen HB2.out 6
  have q3 : w2.cell? ⟨W.heap.size, 3, none⟩ = some (.int .i64 x.f3) := (blk_cell HX2.out 3).trans rfl
  have hd2 : w2.cell? ⟨db, gi, none⟩ = some (.slice (some ⟨wb, 0, none⟩) wl wl) := pw_cell_below HTW.out HD.out
  have hr2 : w2.cell? ⟨rb, x.f3.toNat, none⟩ = some (.int .i32 v) := pw_cell_below HTW.out HR3.out
  go_wp2
  refine bodyPost_ret (v := .tuple #[.int .i64 0, .int .i64 0, .bool false]) ?_ rfl ⟨rfl, blk_put HB2.out 6 _ (by simp [rC, rE]), (Tr.of_below HTW.out (one g)).set (.inl (one_self g)) _⟩
  simp [results, Try.results42, go_sem]
set_option maxHeartbeats 4000000 in
set_option maxRecDepth 100000 in
theorem rindex_high (AG : Option Addr) (cG : Nat) (GS : List S57) (AF : Option Addr) (cF : Nat) (F : List S47) (db cD : Nat) (iv : Value) (fuel : Int) (c va : Int) (tv : Value) (st rd : Nat) (W : World) (g : Nat) (hb : W.heap[g]? = some (.cells (rC (rE AG cG GS AF cF F db cD iv fuel) ⟨c, 0, va, tv, st, rd⟩) 61 (0, 0))) (hG : Kd.C k57 W AG GS.length GS) (hcG : GS.length ≤ cG) (hF : Kd.C k47 W AF F.length F) (hcF : F.length ≤ cF) (hfew : GS.length ≤ 1000) (rb : Nat) (regs : List Int) (n : Nat) (hn : regs.length = n) (hr : W.heap[rb]? = some (.cells (row32 regs) 21 (0, 0))) (x : S44) (av : Value) (hav : av.oneCell' = true) (hgi : glAt GS x.f6 < GS.length) (wb wl : Nat) (hd : W.cell? ⟨db, glAt GS x.f6, none⟩ = some (.slice (some ⟨wb, 0, none⟩) wl wl)) (hcD : GS.length ≤ cD) (hwl : wl ≤ 1000000) (h0 : 0 ≤ x.f3) (h1 : x.f3 < (n : Int)) (hi : (wl : Int) ≤ get32 regs x.f3) (hi2 : get32 regs x.f3 ≤ 2147483647) :
    Calls Try.prog 42 #[.pointer (some ⟨g, 0, none⟩), .slice (some ⟨rb, 0, none⟩) n n, .agg (xC x av)] W fun e w' => e = .returned (.tuple #[.int .i64 0, .int .i64 0, .bool false]) ∧ Turned W w' g (rC (rE AG cG GS AF cF F db cD iv fuel) ⟨c, 3, va, tv, st, rd⟩) 61 := by
  have HB := Aside0.mk hb
  have HG_ := Aside0.mk hG
  have HF_ := Aside0.mk hF
  have HCG := Aside0.mk hcG
  have HCF := Aside0.mk hcF
  have HFEW := Aside0.mk (Nat.le_trans hfew (by decide : 1000 ≤ 1000000))
  have HPOS : Aside0 (posOf (glAt GS x.f6) GS.length = (glAt GS x.f6 : Int)) := ⟨if_pos hgi⟩
  have HD := Aside0.mk hd
  have hltg := blk_lt hb
  have hltr := blk_lt hr
  have d1 : decide (x.f3 ≥ 0) = true := decide_eq_true h0
  have d2 : decide (0 ≤ x.f3) = true := decide_eq_true h0
  have hr3 := row32_cell hr x.f3 h0 (by omega)
  obtain ⟨v, hv⟩ : ∃ v, get32 regs x.f3 = v := ⟨_, rfl⟩
  have h1n : x.f3 < (n : Int) := h1
  rw [hv] at hr3 hi hi2
  have HR3 := Aside0.mk hr3
  have w3 : wrap64 v = v := w64 (by omega) (by omega)
  have d3 : decide (v < 0) = false := decide_eq_false (by omega)
  have d4 : decide (v ≥ (wl : Int)) = true := decide_eq_true hi
  have d5 : decide ((wl : Int) ≤ v) = true := decide_eq_true hi
  clear hr3 hv hr hn h1
  have hgic : (glAt GS x.f6 : Int) < (GS.length : Int) := by omega
  obtain ⟨gi, hgi2⟩ : ∃ gi, glAt GS x.f6 = gi := ⟨_, rfl⟩
  have HGI2 := Aside0.mk hgi2
  rw [hgi2] at HPOS HD hgi hgic
  clear hgi2
  clear hb hd hG hF hcG hcF hfew
  unfold xC
  go_enter Try.func42, Try.ntmps42
  go_wp2
  have HT1 : Aside0 (Below W.heap.size W (W.alloc (.cells #[.int .i64 x.f0, .int .i64 x.f1, .int .i64 x.f2, .int .i64 x.f3, .int .i64 x.f4, .int .i32 x.f5, .string x.f6, av] 44))) := ⟨below_alloc (Below.refl _ _) _⟩
  have HB1 : Aside0 ((W.alloc (.cells #[.int .i64 x.f0, .int .i64 x.f1, .int .i64 x.f2, .int .i64 x.f3, .int .i64 x.f4, .int .i32 x.f5, .string x.f6, av] 44)).heap[g]? = some (.cells (rC (rE AG cG GS AF cF F db cD iv fuel) ⟨c, 0, va, tv, st, rd⟩) 61 (0, 0))) := ⟨blk_alloc HB.out _⟩
  have HX1 : Aside0 ((W.alloc (.cells #[.int .i64 x.f0, .int .i64 x.f1, .int .i64 x.f2, .int .i64 x.f3, .int .i64 x.f4, .int .i32 x.f5, .string x.f6, av] 44)).heap[W.heap.size]? = some (.cells #[.int .i64 x.f0, .int .i64 x.f1, .int .i64 x.f2, .int .i64 x.f3, .int .i64 x.f4, .int .i32 x.f5, .string x.f6, av] 44)) := ⟨blk_new _ _⟩
  generalize W.alloc (.cells #[.int .i64 x.f0, .int .i64 x.f1, .int .i64 x.f2, .int .i64 x.f3, .int .i64 x.f4, .int .i32 x.f5, .string x.f6, av] 44) = w1 at HT1 HB1 HX1 ⊢
  have m0 : w1.cell? ⟨g, 0, none⟩ = some (.slice AG GS.length cG) := (blk_cell HB1.out 0).trans rfl
  have m1 : w1.cell? ⟨g, 1, none⟩ = some (.slice AF F.length cF) := (blk_cell HB1.out 1).trans rfl
  have q6 : w1.cell? ⟨W.heap.size, 6, none⟩ = some (.string x.f6) := (blk_cell HX1.out 6).trans rfl
  refine start_ (n := 8) (S := fun w_ => w_.cell? ⟨g, 0, none⟩ = some (.slice AG GS.length cG) ∧ w_.cell? ⟨g, 1, none⟩ = some (.slice AF F.length cF) ∧ w_.cell? ⟨W.heap.size, 6, none⟩ = some (.string x.f6) ∧ Aside0 (Below w1.heap.size w1 w_)) (ds := []) #[false, false, false, false, false, false, false, false] (by kernel_rfl) rfl rfl ⟨m0, m1, q6, ⟨below_drew (Below.refl _ _)⟩⟩ (fun hHeld => ?_)
  refine pure_ (i := 0) (N := some 11) (v := ?_) (a' := ?_) #[true, false, false, false, false, false, false, false] rfl rfl (by kernel_rfl) (fun _ _ _ h => h) (Or.inl ⟨by rfl, ?_⟩) ?_ ?_
  rotate_left
  · intro w'
    go_simp
    with_reducible rfl
  rotate_left
  · simp only [ps_]
    rfl
  refine pure_ (i := 1) (N := some 12) (v := ?_) (a' := ?_) #[true, true, false, false, false, false, false, false] rfl rfl (by kernel_rfl) (fun _ _ _ h => h) (Or.inl ⟨by rfl, ?_⟩) ?_ ?_
  rotate_left
  · intro w'
    go_simp
    with_reducible rfl
  rotate_left
  · simp only [ps_]
    rfl
  refine pure_ (i := 2) (N := some 13) (v := ?_) (a' := ?_) #[true, true, true, false, false, false, false, false] rfl rfl (by kernel_rfl) (fun _ _ _ h => h) (Or.inl ⟨by rfl, ?_⟩) ?_ ?_
  rotate_left
  · intro w'
    go_simp
    with_reducible rfl
  rotate_left
  · simp only [ps_]
    rfl
  refine take_ (i := 3) (N := some 14) (v := ?_) (a' := ?_) #[true, true, true, true, false, false, false, false] rfl rfl (by kernel_rfl) (fun _ _ _ h => h) (Or.inl ⟨by rfl, ?_⟩) hHeld ?_ ?_
  rotate_left
  · rintro w' ⟨h0_, h1_, h2_, h3_⟩
    go_simp
    with_reducible rfl
  rotate_left
  · simp only [ps_]
    rfl
  refine pure_ (i := 4) (N := some 15) (v := ?_) (a' := ?_) #[true, true, true, true, true, false, false, false] rfl rfl (by kernel_rfl) (fun _ _ _ h => h) (Or.inl ⟨by rfl, ?_⟩) ?_ ?_
  rotate_left
  · intro w'
    go_simp
    with_reducible rfl
  rotate_left
  · simp only [ps_]
    rfl
  refine take_ (i := 5) (N := some 16) (v := ?_) (a' := ?_) #[true, true, true, true, true, true, false, false] rfl rfl (by kernel_rfl) (fun _ _ _ h => h) (Or.inl ⟨by rfl, ?_⟩) hHeld ?_ ?_
  rotate_left
  · rintro w' ⟨h0_, h1_, h2_, h3_⟩
    go_simp
    with_reducible rfl
  rotate_left
  · simp only [ps_]
    rfl
  refine one_ (i := 6) (N := some 17) #[true, true, true, true, true, true, true, false] rfl rfl (by kernel_rfl) (by decide) (fun K hK => ?_)
  refine goes_ Try.func20 (by kernel_rfl) rfl #[.agg #[.slice AG GS.length cG, .slice AF F.length cF], .string x.f6] (by rfl) rfl rfl (by first | rfl | (simp only [List.map_toArray, List.map_cons, List.map_nil]; done) | (simp only [List.map_toArray, List.map_cons, List.map_nil]; rfl)) ?_
  refine (glat_calls AG cG GS AF cF F x.f6 _ (Kd.C_below HG_.out (below_step HT1.out hHeld.2.2.2.out)) HCG.out (Kd.C_below HF_.out (below_step HT1.out hHeld.2.2.2.out)) HCF.out HFEW.out).mono ?_
  rw [HGI2.out, HPOS.out]; rintro e_ w2 ⟨rfl, hB_⟩; have HT2 := Aside0.mk (below_then hHeld.2.2.2.out hHeld.2.2.2.out.size hB_)
  refine ⟨_, rfl, ?_⟩
  refine hK.out _ _ ⟨pw_cell_below hB_ hHeld.1, pw_cell_below hB_ hHeld.2.1, pw_cell_below hB_ hHeld.2.2.1, ⟨below_then hHeld.2.2.2.out hHeld.2.2.2.out.size hB_⟩⟩ (fun hHeld => ?_)
  clear hK K
  refine norm_ (a' := ?_) ?_ ?_
  rotate_left
  · show Act.put _ (some 17) _ = _
    simp only [ps_]
    rfl
  refine pure_ (i := 7) (N := some 9) (v := ?_) (a' := ?_) #[true, true, true, true, true, true, true, true] rfl rfl (by kernel_rfl) (fun _ _ _ h => h) (Or.inl ⟨by rfl, ?_⟩) ?_ ?_
  rotate_left
  · intro w'
    go_simp
    with_reducible rfl
  rotate_left
  · simp only [ps_]
    rfl
  refine done_ (by kernel_rfl) ?_
  have HTW := Aside0.mk (below_step HT1.out HT2.out)
  have HB2 := Aside0.mk (blk_below HB1.out HT2.out)
  have HX2 := Aside0.mk (blk_below HX1.out HT2.out)
  clear m0 m1 q6
  have m2 : w2.cell? ⟨g, 2, none⟩ = some (.slice (some ⟨db, 0, none⟩) GS.length cD) := (blk_cell HB2.out 2).trans rfl
  have m6 : w2.cell? ⟨g, 6, none⟩ = some (.int .i64 0) := (blk_cell HB2.out 6).trans rfl
  have fm6 := blk_frozen HB2.out 6
  have q3 : w2.cell? ⟨W.heap.size, 3, none⟩ = some (.int .i64 x.f3) := (blk_cell HX2.out 3).trans rfl
  have hd2 : w2.cell? ⟨db, gi, none⟩ = some (.slice (some ⟨wb, 0, none⟩) wl wl) := pw_cell_below HTW.out HD.out
  have hr2 : w2.cell? ⟨rb, x.f3.toNat, none⟩ = some (.int .i32 v) := pw_cell_below HTW.out HR3.out
  go_wp2
  refine bodyPost_ret (v := .tuple #[.int .i64 0, .int .i64 0, .bool false]) ?_ rfl ⟨rfl, blk_put HB2.out 6 _ (by simp [rC, rE]), (Tr.of_below HTW.out (one g)).set (.inl (one_self g)) _⟩
  simp [results, Try.results42, go_sem]
end Go.Proofs.Ytabkinlpbefjgaa.L

