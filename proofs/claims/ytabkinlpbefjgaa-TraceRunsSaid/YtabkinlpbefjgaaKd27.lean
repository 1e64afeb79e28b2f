/- Texts of this seat that a claim bears, put together by this session's own program shake.py: TrRq. -/
import Derived.Test.YtabkinlpbefjgaaKps
import Derived.Test.YtabkinlpbefjgaaKd26
namespace Go.Proofs.Ytabkinlpbefjgaa.L
open Go.RowKit Go.Proofs.Ytabkinlpbefjgaa.X Go.Proofs.YtabkinlpbefjgaaW.PrintWords Go.Proofs.YtabkinlpbefjgaaW.PrintLast Go.Proofs.YtabkinlpbefjgaaW.PrintMore
attribute [local go_sem] max2_int min2_int max_two min_two max_three min_three max_four min_four   -- for this text's walks alone
set_option linter.unusedVariables false
set_option linter.unusedSimpArgs false
open Go.Proofs.Ytabkinlpbefjgaa.Pure
theorem runT_tot (F : List S47) (GS : List S57) (inp : List Int) (fuel : Int) : ∃ e v G, runT F GS inp fuel = .fin e v G := by
  rw [runT_eq]
  cases runE F GS inp fuel.toNat with
  | go s G => exact ⟨_, _, _, rfl⟩
  | fin e v G => exact ⟨_, _, _, rfl⟩
theorem runT_none (F : List S47) (GS : List S57) (inp : List Int) : runT F GS inp (-1) = .fin 5 0 (Gl.start GS) := by
  rw [runT_eq]
  rfl
structure Two2 where
  A1 : Option Addr
  c1 : Nat
  A2 : Option Addr
  c2 : Nat
  g1 : Nat
  g2 : Nat
theorem ref_at {GS : List S57} {F : List S47} {AG : Option Addr} {cG : Nat} {A : Addr} {cF : Nat} {w W : World} (h : LawW GS F AG cG (some A) cF w W) (hO : OkAll F GS) (inp : List Int) (AI : Option Addr) (cI : Nat) (fuel : Int)
    (hG : Kd.C k57 w AG GS.length GS) (hF : Kd.C k47 w (some A) F.length F) (hI : (Kd.int .i32).C w AI inp.length inp) (hcF : F.length ≤ cF) (hcG : GS.length ≤ cG) (hcI : inp.length ≤ cI) (hw : ∀ v ∈ inp, W32 v) (hlen : inp.length ≤ 30) (hfuel : fuel ≤ 10000) :
    Calls Try.prog 11 #[.agg #[.slice AG GS.length cG, .slice (some A) F.length cF], .slice AI inp.length cI, .int .i64 fuel] W (TracePost F GS inp fuel W) :=
  rrun_calls F GS inp fuel W (some A) cF AG cG AI cI (Kd.C_below hF h.below) (Kd.C_below hG h.below) (Kd.C_below hI h.below) hcF hcG hcI hO.ok hw (by omega) (by omega)
theorem none_at {GS : List S57} {F : List S47} {AG : Option Addr} {cG : Nat} {A : Addr} {cF : Nat} {w W : World} (h : LawW GS F AG cG (some A) cF w W) (hO : OkAll F GS) (inp : List Int) (AI : Option Addr) (cI : Nat)
    (hG : Kd.C k57 w AG GS.length GS) (hF : Kd.C k47 w (some A) F.length F) (hI : (Kd.int .i32).C w AI inp.length inp) (hcF : F.length ≤ cF) (hcG : GS.length ≤ cG) (hcI : inp.length ≤ cI) (hw : ∀ v ∈ inp, W32 v) (hlen : inp.length ≤ 30) :
    Calls Try.prog 10 #[.agg #[.slice AG GS.length cG, .slice (some A) F.length cF], .slice AI inp.length cI, .int .i64 (-1)] W fun e w' => ∃ A c, e = .returned (.agg #[.int .i64 5, .int .i32 0, .slice A (Gl.start GS).tr.length c, .int .i64 0, .int .i64 0]) ∧ Below W.heap.size W w' := by
  refine (trace_at h hO inp AI cI (-1) hG hF hI hcF hcG hcI hw hlen (by omega)).mono ?_
  rintro e w' ⟨en, v, G, A2, c2, hr, rfl, _, _, hb⟩
  rw [runT_none] at hr
  injection hr with h1 h2 h3
  subst h1 h2 h3
  exact ⟨A2, c2, rfl, hb⟩
set_option maxHeartbeats 4000000 in
set_option maxRecDepth 100000 in
theorem runs_calls (GS : List S57) (F : List S47) (AG : Option Addr) (cG : Nat) (AF : Option Addr) (cF : Nat) (AI : Option Addr) (cI : Nat) (l : List Int) (fuel : Int) (w : World) (hG : Kd.C k57 w AG GS.length GS) (hcG : GS.length ≤ cG) (hF : Kd.C k47 w AF F.length F) (hcF : F.length ≤ cF) (hI : (Kd.int .i32).C w AI l.length l) (hcI : l.length ≤ cI)
    (hN : ∀ f ∈ F, ∀ b ∈ f.f3, ∀ x ∈ b.f0, W32 x.f5) (hw : ∀ v ∈ l, W32 v) :
    Calls Try.prog 3 #[.agg #[.slice AG GS.length cG, .slice AF F.length cF], .slice AI l.length cI, .int .i64 fuel] w fun e w' => e = .returned (.bool true) ∧ Below w.heap.size w w' := by
  obtain ⟨inp, hinp⟩ : ∃ inp, l.take 30 = inp := ⟨_, rfl⟩
  obtain ⟨f, hf⟩ : ∃ f : Nat, max 0 (min fuel 400) = (f : Int) := ⟨(max 0 (min fuel 400)).toNat, by omega⟩
  have HF4 : Aside0 (f ≤ 400) := ⟨by omega⟩
  have HL3 : Aside0 (inp.length ≤ 30) := ⟨by rw [← hinp, List.length_take]; omega⟩
  have HCI : Aside0 (inp.length ≤ cI) := ⟨by rw [← hinp, List.length_take]; omega⟩
  have HWI : Aside0 (∀ v ∈ inp, W32 v) := ⟨fun v hv => hw v (List.mem_of_mem_take (hinp ▸ hv))⟩
  have hIt : (Kd.int .i32).C w AI inp.length inp := by
    by_cases h30 : 30 ≤ l.length
    · rw [← hinp]; exact Kd.C_take hI h30
    · rw [← hinp, List.take_of_length_le (by omega)]; exact hI
  obtain ⟨ea, va, Ga, hrt⟩ := runT_tot F GS inp (f : Int)
  have HRT := Aside0.mk hrt
  have HTR : Aside0 (Ga.tr.length ≤ 1000000) := ⟨by have := runT_tr hrt; omega⟩
  have HIT := Aside0.mk hIt
  have HI0 := Aside0.mk hI
  have HC0 := Aside0.mk hcI
  have HGG := Aside0.mk hG
  have HF := Aside0.mk hF
  have HCG := Aside0.mk hcG
  have HCF := Aside0.mk hcF
  have HN := Aside0.mk hN
  have HINP := Aside0.mk hinp
  have HFU := Aside0.mk hf
  clear hG hF hcG hcF hI hcI hN hw hinp hf hIt hrt
  have I32 : Aside0 ((Try.prog.info? 32).map (·.size) = some 5) := ⟨by kernel_rfl⟩
  go_enter Try.func3, Try.ntmps3
  go_wp2_with (first
    | (go_at_call 7; (with_reducible refine (fine_at GS F AG cG AF cF _ (Kd.C_alloc HGG.out _) HCG.out (Kd.C_alloc HF.out _) HCF.out HN.out).mono ?_)
       rintro e w5 ⟨hB, hE⟩
       have hLW := (LawW.new GS F AG cG AF cF w).keep hB
       have m0 := hLW.c0
       have m1 := hLW.c1
       have HLW5 := Aside0.mk hLW
       clear hLW hB
       rcases hE with rfl | ⟨rfl, HO, A, rfl⟩)
    | (go_at_call 9; (with_reducible refine (cut_at AI cI l inp fuel f _ (Kd.C_below HI0.out HLW5.out.below) HC0.out HINP.out HFU.out).mono ?_)
       rintro e w5 ⟨rfl, rfl⟩)
    | fail)
  · go_wp2_with (first
      | (go_at_call 8; (with_reducible refine (lives_calls _).mono ?_)
         rintro e w6 ⟨rfl, hB6⟩
         have HB6 := Aside0.mk (below_step HLW5.out.below hB6)
         clear hB6)
      | fail)
    go_ret
    exact ⟨rfl, HB6.out⟩
  refine start_ (n := 12) (S := fun w_ => w_.cell? ⟨w.heap.size, 0, none⟩ = some (.slice AG GS.length cG) ∧ w_.cell? ⟨w.heap.size, 1, none⟩ = some (.slice (some A) F.length cF) ∧ Aside0 (Below w5.heap.size w5 w_)) (ds := [10, 11]) #[false, false, false, false, false, false, false, false, false, false, false, false] (by kernel_rfl) rfl rfl ⟨m0, m1, ⟨below_drew (Below.refl _ _)⟩⟩ (fun hHeld => ?_)
  refine take_ (i := 0) (N := some 20) (v := ?_) (a' := ?_) #[true, false, false, false, false, false, false, false, false, false, false, false] rfl rfl (by kernel_rfl) (fun _ _ _ h => h) (Or.inl ⟨by rfl, ?_⟩) hHeld ?_ ?_
  rotate_left
  · rintro w' ⟨h0_, h1_, h2_⟩
    go_simp
    with_reducible rfl
  rotate_left
  · simp only [ps_]
    rfl
  refine pure_ (i := 1) (N := some 21) (v := ?_) (a' := ?_) #[true, true, false, false, false, false, false, false, false, false, false, false] rfl rfl (by kernel_rfl) (fun _ _ _ h => h) (Or.inl ⟨by rfl, ?_⟩) ?_ ?_
  rotate_left
  · intro w'
    go_simp
    with_reducible rfl
  rotate_left
  · simp only [ps_]
    rfl
  refine pure_ (i := 2) (N := some 22) (v := ?_) (a' := ?_) #[true, true, true, false, false, false, false, false, false, false, false, false] rfl rfl (by kernel_rfl) (fun _ _ _ h => h) (Or.inl ⟨by rfl, ?_⟩) ?_ ?_
  rotate_left
  · intro w'
    go_simp
    with_reducible rfl
  rotate_left
  · simp only [ps_]
    rfl
  refine take_ (i := 4) (N := some 24) (v := ?_) (a' := ?_) #[true, true, true, false, true, false, false, false, false, false, false, false] rfl rfl (by kernel_rfl) (fun _ _ _ h => h) (Or.inl ⟨by rfl, ?_⟩) hHeld ?_ ?_
  rotate_left
  · rintro w' ⟨h0_, h1_, h2_⟩
    go_simp
    with_reducible rfl
  rotate_left
  · simp only [ps_]
    rfl
  refine pure_ (i := 5) (N := some 25) (v := ?_) (a' := ?_) #[true, true, true, false, true, true, false, false, false, false, false, false] rfl rfl (by kernel_rfl) (fun _ _ _ h => h) (Or.inl ⟨by rfl, ?_⟩) ?_ ?_
  rotate_left
  · intro w'
    go_simp
    with_reducible rfl
  rotate_left
  · simp only [ps_]
    rfl
  refine pure_ (i := 6) (N := some 26) (v := ?_) (a' := ?_) #[true, true, true, false, true, true, true, false, false, false, false, false] rfl rfl (by kernel_rfl) (fun _ _ _ h => h) (Or.inl ⟨by rfl, ?_⟩) ?_ ?_
  rotate_left
  · intro w'
    go_simp
    with_reducible rfl
  rotate_left
  · simp only [ps_]
    rfl
  refine join_ (σ := Two2) 2 #[true, true, true, true, true, true, true, true, true, true, false, false] (fun s => [(23, .agg #[.int .i64 ea, .int .i32 va, .slice s.A1 Ga.tr.length s.c1, .int .i64 (Ga.st : Int), .int .i64 (Ga.rd : Int)]), (27, .agg #[.int .i64 ea, .int .i32 va, .slice s.A2 Ga.tr.length s.c2, .int .i64 (Ga.st : Int), .int .i64 (Ga.rd : Int)]), (7, .pointer (some ⟨s.g1, 0, none⟩)), (8, .pointer (some ⟨s.g2, 0, none⟩))]) (fun s w_ => Aside0 (Below w5.heap.size w5 w_) ∧ Aside0 (Keeps (fun k => k = s.g1 ∨ k = s.g2) w_ s.A1 Ga.tr) ∧ Aside0 (Ga.tr.length ≤ s.c1) ∧ Aside0 (Keeps (fun k => k = s.g1 ∨ k = s.g2) w_ s.A2 Ga.tr) ∧ Aside0 (Ga.tr.length ≤ s.c2) ∧ Aside0 (w_.heap[s.g1]? = some (.cells #[.int .i64 0, .int .i32 0, .slice none 0 0, .int .i64 0, .int .i64 0] 32 (0, 0))) ∧ Aside0 (w_.heap[s.g2]? = some (.cells #[.int .i64 0, .int .i32 0, .slice none 0 0, .int .i64 0, .int .i64 0] 32 (0, 0))) ∧ Aside0 (s.g1 ≠ s.g2 ∧ w5.heap.size ≤ s.g1 ∧ w5.heap.size ≤ s.g2)) ?_ (fun hfin => ?_)
  rotate_left
  refine three_ (i := 3) (j := 8) (k := 9) (Ni := some 23) (Nj := some 7) (Nk := some 8) #[true, true, true, true, true, true, true, false, false, false, false, false] #[true, true, true, false, true, true, true, false, true, false, false, false] #[true, true, true, false, true, true, true, false, false, true, false, false] rfl rfl rfl rfl rfl rfl (by kernel_rfl) (by decide) (by decide) (by decide) (fun K hK => ?_) (fun K hK => ?_) (fun K hK => ?_)
  · refine goes_ Try.func10 (by kernel_rfl) rfl #[.agg #[.slice AG GS.length cG, .slice (some A) F.length cF], .slice AI inp.length cI, .int .i64 (f : Int)] (by rfl) rfl rfl (by first | rfl | (simp only [List.map_toArray, List.map_cons, List.map_nil]; done) | (simp only [List.map_toArray, List.map_cons, List.map_nil]; rfl)) ?_
    refine (trace_at (HLW5.out.keep hHeld.2.2.out) HO.out inp AI cI (f : Int) HGG.out HF.out HIT.out HCF.out HCG.out HCI.out HWI.out HL3.out (by have := HF4.out; omega)).mono ?_
    rintro e_ w11 ⟨ec, vc, Gc, A11, c11, hc, rfl, hl11, hC11, hB_⟩
    rw [HRT.out] at hc
    injection hc with hc1 hc2 hc3
    subst hc1 hc2 hc3
    have HC1 := Aside0.mk (hC11.mono (Y := (fun _ => False)) (fun k hk => hk.elim))
    have HL11 := Aside0.mk hl11
    clear hC11 hl11
    refine ⟨_, rfl, ?_⟩
    refine hK.out _ _ ⟨pw_cell_below hB_ hHeld.1, pw_cell_below hB_ hHeld.2.1, ⟨below_then hHeld.2.2.out hHeld.2.2.out.size hB_⟩⟩ (fun hHeld => ?_)
    clear hK K
    refine norm_ (a' := ?_) ?_ ?_
    rotate_left
    · show Act.put _ (some 23) _ = _
      simp only [ps_]
      rfl
    refine three_ (i := 7) (j := 8) (k := 9) (Ni := some 27) (Nj := some 7) (Nk := some 8) #[true, true, true, true, true, true, true, true, false, false, false, false] #[true, true, true, true, true, true, true, false, true, false, false, false] #[true, true, true, true, true, true, true, false, false, true, false, false] rfl rfl rfl rfl rfl rfl (by kernel_rfl) (by decide) (by decide) (by decide) (fun K hK => ?_) (fun K hK => ?_) (fun K hK => ?_)
    · refine goes_ Try.func11 (by kernel_rfl) rfl #[.agg #[.slice AG GS.length cG, .slice (some A) F.length cF], .slice AI inp.length cI, .int .i64 (f : Int)] (by rfl) rfl rfl (by first | rfl | (simp only [List.map_toArray, List.map_cons, List.map_nil]; done) | (simp only [List.map_toArray, List.map_cons, List.map_nil]; rfl)) ?_
      refine (ref_at (HLW5.out.keep hHeld.2.2.out) HO.out inp AI cI (f : Int) HGG.out HF.out HIT.out HCF.out HCG.out HCI.out HWI.out HL3.out (by have := HF4.out; omega)).mono ?_
      rintro e_ w12 ⟨ec, vc, Gc, A12, c12, hc, rfl, hl11, hC11, hB_⟩
      rw [HRT.out] at hc
      injection hc with hc1 hc2 hc3
      subst hc1 hc2 hc3
      have HC2 := Aside0.mk (hC11.mono (Y := (fun _ => False)) (fun k hk => hk.elim))
      have HC1 := Aside0.mk (HC1.out.step hB_ (Y := (fun _ => False)) (fun k hk => Or.inl hk))
      have HL12 := Aside0.mk hl11
      clear hC11 hl11
      refine ⟨_, rfl, ?_⟩
      refine hK.out _ _ ⟨pw_cell_below hB_ hHeld.1, pw_cell_below hB_ hHeld.2.1, ⟨below_then hHeld.2.2.out hHeld.2.2.out.size hB_⟩⟩ (fun hHeld => ?_)
      clear hK K
      refine norm_ (a' := ?_) ?_ ?_
      rotate_left
      · show Act.put _ (some 27) _ = _
        simp only [ps_]
        rfl
      refine two_ (i := 8) (j := 9) (Ni := some 7) (Nj := some 8) #[true, true, true, true, true, true, true, true, true, false, false, false] #[true, true, true, true, true, true, true, true, false, true, false, false] rfl rfl rfl rfl (by kernel_rfl) (by decide) (by decide) (fun K hK => ?_) (fun K hK => ?_)
      · refine box_step (by rfl) (N := 7) rfl (cs := #[.int .i64 0, .int .i32 0, .slice none 0 0, .int .i64 0, .int .i64 0]) (t := 32) (by first | (go_simp; done) | (go_simp; rfl)) ?_
        intro g9 hg_ w13 hb_ hB_
        have HC1 := Aside0.mk (HC1.out.step hB_ (Y := fun k => k = g9) (fun k hk => .inr (Nat.le_of_eq (Eq.trans hk hg_).symm)))
        have HC2 := Aside0.mk (HC2.out.step hB_ (Y := fun k => k = g9) (fun k hk => .inr (Nat.le_of_eq (Eq.trans hk hg_).symm)))
        have HB9 := Aside0.mk hb_
        have HG9 : Aside0 (w5.heap.size ≤ g9) := ⟨Nat.le_trans hHeld.2.2.out.size (Nat.le_of_eq hg_.symm)⟩
        clear hb_ hg_
        refine hK.out _ _ ⟨pw_cell_below hB_ hHeld.1, pw_cell_below hB_ hHeld.2.1, ⟨below_then hHeld.2.2.out hHeld.2.2.out.size hB_⟩⟩ (fun hHeld => ?_)
        clear hK K
        refine norm_ (a' := ?_) ?_ ?_
        rotate_left
        · show Act.put _ (some 7) _ = _
          simp only [ps_]
          rfl
        refine one_ (i := 9) (N := some 8) #[true, true, true, true, true, true, true, true, true, true, false, false] rfl rfl (by kernel_rfl) (by decide) (fun K hK => ?_)
        refine box_step (by rfl) (N := 8) rfl (cs := #[.int .i64 0, .int .i32 0, .slice none 0 0, .int .i64 0, .int .i64 0]) (t := 32) (by first | (go_simp; done) | (go_simp; rfl)) ?_
        intro g10 hg_ w13 hb_ hB_
        have HC1 := Aside0.mk (HC1.out.step hB_ (Y := fun k => k = g9 ∨ k = g10) (fun k hk => hk.elim (fun h => .inl h) (fun h => .inr (Nat.le_of_eq (h.trans hg_).symm))))
        have HC2 := Aside0.mk (HC2.out.step hB_ (Y := fun k => k = g9 ∨ k = g10) (fun k hk => hk.elim (fun h => .inl h) (fun h => .inr (Nat.le_of_eq (h.trans hg_).symm))))
        have HNE : Aside0 (g9 ≠ g10) := ⟨fun e_ => by have h1_ := blk_lt HB9.out; omega⟩
        have HB9 := Aside0.mk (blk_below HB9.out hB_)
        have HB10 := Aside0.mk hb_
        have HG10 : Aside0 (w5.heap.size ≤ g10) := ⟨Nat.le_trans hHeld.2.2.out.size (Nat.le_of_eq hg_.symm)⟩
        clear hb_ hg_
        refine hK.out _ _ ⟨pw_cell_below hB_ hHeld.1, pw_cell_below hB_ hHeld.2.1, ⟨below_then hHeld.2.2.out hHeld.2.2.out.size hB_⟩⟩ (fun hHeld => ?_)
        clear hK K
        refine norm_ (a' := ?_) ?_ ?_
        rotate_left
        · show Act.put _ (some 8) _ = _
          simp only [ps_]
          rfl
        refine norm_ (by kernel_rfl) (hfin ⟨A11, c11, A12, c12, g9, g10⟩ _ ⟨hHeld.2.2, HC1, HL11, HC2, HL12, HB9, HB10, ⟨⟨HNE.out, HG9.out, HG10.out⟩⟩⟩)
      · refine box_step (by rfl) (N := 8) rfl (cs := #[.int .i64 0, .int .i32 0, .slice none 0 0, .int .i64 0, .int .i64 0]) (t := 32) (by first | (go_simp; done) | (go_simp; rfl)) ?_
        intro g10 hg_ w13 hb_ hB_
        have HC1 := Aside0.mk (HC1.out.step hB_ (Y := fun k => k = g10) (fun k hk => .inr (Nat.le_of_eq (Eq.trans hk hg_).symm)))
        have HC2 := Aside0.mk (HC2.out.step hB_ (Y := fun k => k = g10) (fun k hk => .inr (Nat.le_of_eq (Eq.trans hk hg_).symm)))
        have HB10 := Aside0.mk hb_
        have HG10 : Aside0 (w5.heap.size ≤ g10) := ⟨Nat.le_trans hHeld.2.2.out.size (Nat.le_of_eq hg_.symm)⟩
        clear hb_ hg_
        refine hK.out _ _ ⟨pw_cell_below hB_ hHeld.1, pw_cell_below hB_ hHeld.2.1, ⟨below_then hHeld.2.2.out hHeld.2.2.out.size hB_⟩⟩ (fun hHeld => ?_)
        clear hK K
        refine norm_ (a' := ?_) ?_ ?_
        rotate_left
        · show Act.put _ (some 8) _ = _
          simp only [ps_]
          rfl
        refine one_ (i := 8) (N := some 7) #[true, true, true, true, true, true, true, true, true, true, false, false] rfl rfl (by kernel_rfl) (by decide) (fun K hK => ?_)
        refine box_step (by rfl) (N := 7) rfl (cs := #[.int .i64 0, .int .i32 0, .slice none 0 0, .int .i64 0, .int .i64 0]) (t := 32) (by first | (go_simp; done) | (go_simp; rfl)) ?_
        intro g9 hg_ w13 hb_ hB_
        have HC1 := Aside0.mk (HC1.out.step hB_ (Y := fun k => k = g9 ∨ k = g10) (fun k hk => hk.elim (fun h => .inr (Nat.le_of_eq (h.trans hg_).symm)) (fun h => .inl h)))
        have HC2 := Aside0.mk (HC2.out.step hB_ (Y := fun k => k = g9 ∨ k = g10) (fun k hk => hk.elim (fun h => .inr (Nat.le_of_eq (h.trans hg_).symm)) (fun h => .inl h)))
        have HNE : Aside0 (g9 ≠ g10) := ⟨fun e_ => by have h1_ := blk_lt HB10.out; omega⟩
        have HB10 := Aside0.mk (blk_below HB10.out hB_)
        have HB9 := Aside0.mk hb_
        have HG9 : Aside0 (w5.heap.size ≤ g9) := ⟨Nat.le_trans hHeld.2.2.out.size (Nat.le_of_eq hg_.symm)⟩
        clear hb_ hg_
        refine hK.out _ _ ⟨pw_cell_below hB_ hHeld.1, pw_cell_below hB_ hHeld.2.1, ⟨below_then hHeld.2.2.out hHeld.2.2.out.size hB_⟩⟩ (fun hHeld => ?_)
        clear hK K
        refine norm_ (a' := ?_) ?_ ?_
        rotate_left
        · show Act.put _ (some 7) _ = _
          simp only [ps_]
          rfl
        refine norm_ (by kernel_rfl) (hfin ⟨A11, c11, A12, c12, g9, g10⟩ _ ⟨hHeld.2.2, HC1, HL11, HC2, HL12, HB9, HB10, ⟨⟨HNE.out, HG9.out, HG10.out⟩⟩⟩)
    · refine box_step (by rfl) (N := 7) rfl (cs := #[.int .i64 0, .int .i32 0, .slice none 0 0, .int .i64 0, .int .i64 0]) (t := 32) (by first | (go_simp; done) | (go_simp; rfl)) ?_
      intro g9 hg_ w13 hb_ hB_
      have HC1 := Aside0.mk (HC1.out.step hB_ (Y := fun k => k = g9) (fun k hk => .inr (Nat.le_of_eq (Eq.trans hk hg_).symm)))
      have HB9 := Aside0.mk hb_
      have HG9 : Aside0 (w5.heap.size ≤ g9) := ⟨Nat.le_trans hHeld.2.2.out.size (Nat.le_of_eq hg_.symm)⟩
      clear hb_ hg_
      refine hK.out _ _ ⟨pw_cell_below hB_ hHeld.1, pw_cell_below hB_ hHeld.2.1, ⟨below_then hHeld.2.2.out hHeld.2.2.out.size hB_⟩⟩ (fun hHeld => ?_)
      clear hK K
      refine norm_ (a' := ?_) ?_ ?_
      rotate_left
      · show Act.put _ (some 7) _ = _
        simp only [ps_]
        rfl
      refine two_ (i := 7) (j := 9) (Ni := some 27) (Nj := some 8) #[true, true, true, true, true, true, true, true, true, false, false, false] #[true, true, true, true, true, true, true, false, true, true, false, false] rfl rfl rfl rfl (by kernel_rfl) (by decide) (by decide) (fun K hK => ?_) (fun K hK => ?_)
      · refine goes_ Try.func11 (by kernel_rfl) rfl #[.agg #[.slice AG GS.length cG, .slice (some A) F.length cF], .slice AI inp.length cI, .int .i64 (f : Int)] (by rfl) rfl rfl (by first | rfl | (simp only [List.map_toArray, List.map_cons, List.map_nil]; done) | (simp only [List.map_toArray, List.map_cons, List.map_nil]; rfl)) ?_
        refine (ref_at (HLW5.out.keep hHeld.2.2.out) HO.out inp AI cI (f : Int) HGG.out HF.out HIT.out HCF.out HCG.out HCI.out HWI.out HL3.out (by have := HF4.out; omega)).mono ?_
        rintro e_ w12 ⟨ec, vc, Gc, A12, c12, hc, rfl, hl11, hC11, hB_⟩
        rw [HRT.out] at hc
        injection hc with hc1 hc2 hc3
        subst hc1 hc2 hc3
        have HC2 := Aside0.mk (hC11.mono (Y := (fun k => k = g9)) (fun k hk => hk ▸ blk_lt HB9.out))
        have HC1 := Aside0.mk (HC1.out.step hB_ (Y := (fun k => k = g9)) (fun k hk => Or.inl hk))
        have HB9 := Aside0.mk (blk_below HB9.out hB_)
        have HL12 := Aside0.mk hl11
        clear hC11 hl11
        refine ⟨_, rfl, ?_⟩
        refine hK.out _ _ ⟨pw_cell_below hB_ hHeld.1, pw_cell_below hB_ hHeld.2.1, ⟨below_then hHeld.2.2.out hHeld.2.2.out.size hB_⟩⟩ (fun hHeld => ?_)
        clear hK K
        refine norm_ (a' := ?_) ?_ ?_
        rotate_left
        · show Act.put _ (some 27) _ = _
          simp only [ps_]
          rfl
        refine one_ (i := 9) (N := some 8) #[true, true, true, true, true, true, true, true, true, true, false, false] rfl rfl (by kernel_rfl) (by decide) (fun K hK => ?_)
        refine box_step (by rfl) (N := 8) rfl (cs := #[.int .i64 0, .int .i32 0, .slice none 0 0, .int .i64 0, .int .i64 0]) (t := 32) (by first | (go_simp; done) | (go_simp; rfl)) ?_
        intro g10 hg_ w13 hb_ hB_
        have HC1 := Aside0.mk (HC1.out.step hB_ (Y := fun k => k = g9 ∨ k = g10) (fun k hk => hk.elim (fun h => .inl h) (fun h => .inr (Nat.le_of_eq (h.trans hg_).symm))))
        have HC2 := Aside0.mk (HC2.out.step hB_ (Y := fun k => k = g9 ∨ k = g10) (fun k hk => hk.elim (fun h => .inl h) (fun h => .inr (Nat.le_of_eq (h.trans hg_).symm))))
        have HNE : Aside0 (g9 ≠ g10) := ⟨fun e_ => by have h1_ := blk_lt HB9.out; omega⟩
        have HB9 := Aside0.mk (blk_below HB9.out hB_)
        have HB10 := Aside0.mk hb_
        have HG10 : Aside0 (w5.heap.size ≤ g10) := ⟨Nat.le_trans hHeld.2.2.out.size (Nat.le_of_eq hg_.symm)⟩
        clear hb_ hg_
        refine hK.out _ _ ⟨pw_cell_below hB_ hHeld.1, pw_cell_below hB_ hHeld.2.1, ⟨below_then hHeld.2.2.out hHeld.2.2.out.size hB_⟩⟩ (fun hHeld => ?_)
        clear hK K
        refine norm_ (a' := ?_) ?_ ?_
        rotate_left
        · show Act.put _ (some 8) _ = _
          simp only [ps_]
          rfl
        refine norm_ (by kernel_rfl) (hfin ⟨A11, c11, A12, c12, g9, g10⟩ _ ⟨hHeld.2.2, HC1, HL11, HC2, HL12, HB9, HB10, ⟨⟨HNE.out, HG9.out, HG10.out⟩⟩⟩)
      · refine box_step (by rfl) (N := 8) rfl (cs := #[.int .i64 0, .int .i32 0, .slice none 0 0, .int .i64 0, .int .i64 0]) (t := 32) (by first | (go_simp; done) | (go_simp; rfl)) ?_
        intro g10 hg_ w13 hb_ hB_
        have HC1 := Aside0.mk (HC1.out.step hB_ (Y := fun k => k = g9 ∨ k = g10) (fun k hk => hk.elim (fun h => .inl h) (fun h => .inr (Nat.le_of_eq (h.trans hg_).symm))))
        have HNE : Aside0 (g9 ≠ g10) := ⟨fun e_ => by have h1_ := blk_lt HB9.out; omega⟩
        have HB9 := Aside0.mk (blk_below HB9.out hB_)
        have HB10 := Aside0.mk hb_
        have HG10 : Aside0 (w5.heap.size ≤ g10) := ⟨Nat.le_trans hHeld.2.2.out.size (Nat.le_of_eq hg_.symm)⟩
        clear hb_ hg_
        refine hK.out _ _ ⟨pw_cell_below hB_ hHeld.1, pw_cell_below hB_ hHeld.2.1, ⟨below_then hHeld.2.2.out hHeld.2.2.out.size hB_⟩⟩ (fun hHeld => ?_)
        clear hK K
        refine norm_ (a' := ?_) ?_ ?_
        rotate_left
        · show Act.put _ (some 8) _ = _
          simp only [ps_]
          rfl
        refine one_ (i := 7) (N := some 27) #[true, true, true, true, true, true, true, true, true, true, false, false] rfl rfl (by kernel_rfl) (by decide) (fun K hK => ?_)
        refine goes_ Try.func11 (by kernel_rfl) rfl #[.agg #[.slice AG GS.length cG, .slice (some A) F.length cF], .slice AI inp.length cI, .int .i64 (f : Int)] (by rfl) rfl rfl (by first | rfl | (simp only [List.map_toArray, List.map_cons, List.map_nil]; done) | (simp only [List.map_toArray, List.map_cons, List.map_nil]; rfl)) ?_
        refine (ref_at (HLW5.out.keep hHeld.2.2.out) HO.out inp AI cI (f : Int) HGG.out HF.out HIT.out HCF.out HCG.out HCI.out HWI.out HL3.out (by have := HF4.out; omega)).mono ?_
        rintro e_ w12 ⟨ec, vc, Gc, A12, c12, hc, rfl, hl11, hC11, hB_⟩
        rw [HRT.out] at hc
        injection hc with hc1 hc2 hc3
        subst hc1 hc2 hc3
        have HC2 := Aside0.mk (hC11.mono (Y := (fun k => k = g9 ∨ k = g10)) (fun k hk => hk.elim (fun h => h ▸ blk_lt HB9.out) (fun h => h ▸ blk_lt HB10.out)))
        have HC1 := Aside0.mk (HC1.out.step hB_ (Y := (fun k => k = g9 ∨ k = g10)) (fun k hk => Or.inl hk))
        have HB9 := Aside0.mk (blk_below HB9.out hB_)
        have HB10 := Aside0.mk (blk_below HB10.out hB_)
        have HL12 := Aside0.mk hl11
        clear hC11 hl11
        refine ⟨_, rfl, ?_⟩
        refine hK.out _ _ ⟨pw_cell_below hB_ hHeld.1, pw_cell_below hB_ hHeld.2.1, ⟨below_then hHeld.2.2.out hHeld.2.2.out.size hB_⟩⟩ (fun hHeld => ?_)
        clear hK K
        refine norm_ (a' := ?_) ?_ ?_
        rotate_left
        · show Act.put _ (some 27) _ = _
          simp only [ps_]
          rfl
        refine norm_ (by kernel_rfl) (hfin ⟨A11, c11, A12, c12, g9, g10⟩ _ ⟨hHeld.2.2, HC1, HL11, HC2, HL12, HB9, HB10, ⟨⟨HNE.out, HG9.out, HG10.out⟩⟩⟩)
    · refine box_step (by rfl) (N := 8) rfl (cs := #[.int .i64 0, .int .i32 0, .slice none 0 0, .int .i64 0, .int .i64 0]) (t := 32) (by first | (go_simp; done) | (go_simp; rfl)) ?_
      intro g10 hg_ w13 hb_ hB_
      have HC1 := Aside0.mk (HC1.out.step hB_ (Y := fun k => k = g10) (fun k hk => .inr (Nat.le_of_eq (Eq.trans hk hg_).symm)))
      have HB10 := Aside0.mk hb_
      have HG10 : Aside0 (w5.heap.size ≤ g10) := ⟨Nat.le_trans hHeld.2.2.out.size (Nat.le_of_eq hg_.symm)⟩
      clear hb_ hg_
      refine hK.out _ _ ⟨pw_cell_below hB_ hHeld.1, pw_cell_below hB_ hHeld.2.1, ⟨below_then hHeld.2.2.out hHeld.2.2.out.size hB_⟩⟩ (fun hHeld => ?_)
      clear hK K
      refine norm_ (a' := ?_) ?_ ?_
      rotate_left
      · show Act.put _ (some 8) _ = _
        simp only [ps_]
        rfl
      refine two_ (i := 7) (j := 8) (Ni := some 27) (Nj := some 7) #[true, true, true, true, true, true, true, true, false, true, false, false] #[true, true, true, true, true, true, true, false, true, true, false, false] rfl rfl rfl rfl (by kernel_rfl) (by decide) (by decide) (fun K hK => ?_) (fun K hK => ?_)
      · refine goes_ Try.func11 (by kernel_rfl) rfl #[.agg #[.slice AG GS.length cG, .slice (some A) F.length cF], .slice AI inp.length cI, .int .i64 (f : Int)] (by rfl) rfl rfl (by first | rfl | (simp only [List.map_toArray, List.map_cons, List.map_nil]; done) | (simp only [List.map_toArray, List.map_cons, List.map_nil]; rfl)) ?_
        refine (ref_at (HLW5.out.keep hHeld.2.2.out) HO.out inp AI cI (f : Int) HGG.out HF.out HIT.out HCF.out HCG.out HCI.out HWI.out HL3.out (by have := HF4.out; omega)).mono ?_
        rintro e_ w12 ⟨ec, vc, Gc, A12, c12, hc, rfl, hl11, hC11, hB_⟩
        rw [HRT.out] at hc
        injection hc with hc1 hc2 hc3
        subst hc1 hc2 hc3
        have HC2 := Aside0.mk (hC11.mono (Y := (fun k => k = g10)) (fun k hk => hk ▸ blk_lt HB10.out))
        have HC1 := Aside0.mk (HC1.out.step hB_ (Y := (fun k => k = g10)) (fun k hk => Or.inl hk))
        have HB10 := Aside0.mk (blk_below HB10.out hB_)
        have HL12 := Aside0.mk hl11
        clear hC11 hl11
        refine ⟨_, rfl, ?_⟩
        refine hK.out _ _ ⟨pw_cell_below hB_ hHeld.1, pw_cell_below hB_ hHeld.2.1, ⟨below_then hHeld.2.2.out hHeld.2.2.out.size hB_⟩⟩ (fun hHeld => ?_)
        clear hK K
        refine norm_ (a' := ?_) ?_ ?_
        rotate_left
        · show Act.put _ (some 27) _ = _
          simp only [ps_]
          rfl
        refine one_ (i := 8) (N := some 7) #[true, true, true, true, true, true, true, true, true, true, false, false] rfl rfl (by kernel_rfl) (by decide) (fun K hK => ?_)
        refine box_step (by rfl) (N := 7) rfl (cs := #[.int .i64 0, .int .i32 0, .slice none 0 0, .int .i64 0, .int .i64 0]) (t := 32) (by first | (go_simp; done) | (go_simp; rfl)) ?_
        intro g9 hg_ w13 hb_ hB_
        have HC1 := Aside0.mk (HC1.out.step hB_ (Y := fun k => k = g9 ∨ k = g10) (fun k hk => hk.elim (fun h => .inr (Nat.le_of_eq (h.trans hg_).symm)) (fun h => .inl h)))
        have HC2 := Aside0.mk (HC2.out.step hB_ (Y := fun k => k = g9 ∨ k = g10) (fun k hk => hk.elim (fun h => .inr (Nat.le_of_eq (h.trans hg_).symm)) (fun h => .inl h)))
        have HNE : Aside0 (g9 ≠ g10) := ⟨fun e_ => by have h1_ := blk_lt HB10.out; omega⟩
        have HB10 := Aside0.mk (blk_below HB10.out hB_)
        have HB9 := Aside0.mk hb_
        have HG9 : Aside0 (w5.heap.size ≤ g9) := ⟨Nat.le_trans hHeld.2.2.out.size (Nat.le_of_eq hg_.symm)⟩
        clear hb_ hg_
        refine hK.out _ _ ⟨pw_cell_below hB_ hHeld.1, pw_cell_below hB_ hHeld.2.1, ⟨below_then hHeld.2.2.out hHeld.2.2.out.size hB_⟩⟩ (fun hHeld => ?_)
        clear hK K
        refine norm_ (a' := ?_) ?_ ?_
        rotate_left
        · show Act.put _ (some 7) _ = _
          simp only [ps_]
          rfl
        refine norm_ (by kernel_rfl) (hfin ⟨A11, c11, A12, c12, g9, g10⟩ _ ⟨hHeld.2.2, HC1, HL11, HC2, HL12, HB9, HB10, ⟨⟨HNE.out, HG9.out, HG10.out⟩⟩⟩)
      · refine box_step (by rfl) (N := 7) rfl (cs := #[.int .i64 0, .int .i32 0, .slice none 0 0, .int .i64 0, .int .i64 0]) (t := 32) (by first | (go_simp; done) | (go_simp; rfl)) ?_
        intro g9 hg_ w13 hb_ hB_
        have HC1 := Aside0.mk (HC1.out.step hB_ (Y := fun k => k = g9 ∨ k = g10) (fun k hk => hk.elim (fun h => .inr (Nat.le_of_eq (h.trans hg_).symm)) (fun h => .inl h)))
        have HNE : Aside0 (g9 ≠ g10) := ⟨fun e_ => by have h1_ := blk_lt HB10.out; omega⟩
        have HB10 := Aside0.mk (blk_below HB10.out hB_)
        have HB9 := Aside0.mk hb_
        have HG9 : Aside0 (w5.heap.size ≤ g9) := ⟨Nat.le_trans hHeld.2.2.out.size (Nat.le_of_eq hg_.symm)⟩
        clear hb_ hg_
        refine hK.out _ _ ⟨pw_cell_below hB_ hHeld.1, pw_cell_below hB_ hHeld.2.1, ⟨below_then hHeld.2.2.out hHeld.2.2.out.size hB_⟩⟩ (fun hHeld => ?_)
        clear hK K
        refine norm_ (a' := ?_) ?_ ?_
        rotate_left
        · show Act.put _ (some 7) _ = _
          simp only [ps_]
          rfl
        refine one_ (i := 7) (N := some 27) #[true, true, true, true, true, true, true, true, true, true, false, false] rfl rfl (by kernel_rfl) (by decide) (fun K hK => ?_)
        refine goes_ Try.func11 (by kernel_rfl) rfl #[.agg #[.slice AG GS.length cG, .slice (some A) F.length cF], .slice AI inp.length cI, .int .i64 (f : Int)] (by rfl) rfl rfl (by first | rfl | (simp only [List.map_toArray, List.map_cons, List.map_nil]; done) | (simp only [List.map_toArray, List.map_cons, List.map_nil]; rfl)) ?_
        refine (ref_at (HLW5.out.keep hHeld.2.2.out) HO.out inp AI cI (f : Int) HGG.out HF.out HIT.out HCF.out HCG.out HCI.out HWI.out HL3.out (by have := HF4.out; omega)).mono ?_
        rintro e_ w12 ⟨ec, vc, Gc, A12, c12, hc, rfl, hl11, hC11, hB_⟩
        rw [HRT.out] at hc
        injection hc with hc1 hc2 hc3
        subst hc1 hc2 hc3
        have HC2 := Aside0.mk (hC11.mono (Y := (fun k => k = g9 ∨ k = g10)) (fun k hk => hk.elim (fun h => h ▸ blk_lt HB9.out) (fun h => h ▸ blk_lt HB10.out)))
        have HC1 := Aside0.mk (HC1.out.step hB_ (Y := (fun k => k = g9 ∨ k = g10)) (fun k hk => Or.inl hk))
        have HB9 := Aside0.mk (blk_below HB9.out hB_)
        have HB10 := Aside0.mk (blk_below HB10.out hB_)
        have HL12 := Aside0.mk hl11
        clear hC11 hl11
        refine ⟨_, rfl, ?_⟩
        refine hK.out _ _ ⟨pw_cell_below hB_ hHeld.1, pw_cell_below hB_ hHeld.2.1, ⟨below_then hHeld.2.2.out hHeld.2.2.out.size hB_⟩⟩ (fun hHeld => ?_)
        clear hK K
        refine norm_ (a' := ?_) ?_ ?_
        rotate_left
        · show Act.put _ (some 27) _ = _
          simp only [ps_]
          rfl
        refine norm_ (by kernel_rfl) (hfin ⟨A11, c11, A12, c12, g9, g10⟩ _ ⟨hHeld.2.2, HC1, HL11, HC2, HL12, HB9, HB10, ⟨⟨HNE.out, HG9.out, HG10.out⟩⟩⟩)
  · refine box_step (by rfl) (N := 7) rfl (cs := #[.int .i64 0, .int .i32 0, .slice none 0 0, .int .i64 0, .int .i64 0]) (t := 32) (by first | (go_simp; done) | (go_simp; rfl)) ?_
    intro g9 hg_ w13 hb_ hB_
    have HB9 := Aside0.mk hb_
    have HG9 : Aside0 (w5.heap.size ≤ g9) := ⟨Nat.le_trans hHeld.2.2.out.size (Nat.le_of_eq hg_.symm)⟩
    clear hb_ hg_
    refine hK.out _ _ ⟨pw_cell_below hB_ hHeld.1, pw_cell_below hB_ hHeld.2.1, ⟨below_then hHeld.2.2.out hHeld.2.2.out.size hB_⟩⟩ (fun hHeld => ?_)
    clear hK K
    refine norm_ (a' := ?_) ?_ ?_
    rotate_left
    · show Act.put _ (some 7) _ = _
      simp only [ps_]
      rfl
    refine two_ (i := 3) (j := 9) (Ni := some 23) (Nj := some 8) #[true, true, true, true, true, true, true, false, true, false, false, false] #[true, true, true, false, true, true, true, false, true, true, false, false] rfl rfl rfl rfl (by kernel_rfl) (by decide) (by decide) (fun K hK => ?_) (fun K hK => ?_)
    · refine goes_ Try.func10 (by kernel_rfl) rfl #[.agg #[.slice AG GS.length cG, .slice (some A) F.length cF], .slice AI inp.length cI, .int .i64 (f : Int)] (by rfl) rfl rfl (by first | rfl | (simp only [List.map_toArray, List.map_cons, List.map_nil]; done) | (simp only [List.map_toArray, List.map_cons, List.map_nil]; rfl)) ?_
      refine (trace_at (HLW5.out.keep hHeld.2.2.out) HO.out inp AI cI (f : Int) HGG.out HF.out HIT.out HCF.out HCG.out HCI.out HWI.out HL3.out (by have := HF4.out; omega)).mono ?_
      rintro e_ w11 ⟨ec, vc, Gc, A11, c11, hc, rfl, hl11, hC11, hB_⟩
      rw [HRT.out] at hc
      injection hc with hc1 hc2 hc3
      subst hc1 hc2 hc3
      have HC1 := Aside0.mk (hC11.mono (Y := (fun k => k = g9)) (fun k hk => hk ▸ blk_lt HB9.out))
      have HB9 := Aside0.mk (blk_below HB9.out hB_)
      have HL11 := Aside0.mk hl11
      clear hC11 hl11
      refine ⟨_, rfl, ?_⟩
      refine hK.out _ _ ⟨pw_cell_below hB_ hHeld.1, pw_cell_below hB_ hHeld.2.1, ⟨below_then hHeld.2.2.out hHeld.2.2.out.size hB_⟩⟩ (fun hHeld => ?_)
      clear hK K
      refine norm_ (a' := ?_) ?_ ?_
      rotate_left
      · show Act.put _ (some 23) _ = _
        simp only [ps_]
        rfl
      refine two_ (i := 7) (j := 9) (Ni := some 27) (Nj := some 8) #[true, true, true, true, true, true, true, true, true, false, false, false] #[true, true, true, true, true, true, true, false, true, true, false, false] rfl rfl rfl rfl (by kernel_rfl) (by decide) (by decide) (fun K hK => ?_) (fun K hK => ?_)
      · refine goes_ Try.func11 (by kernel_rfl) rfl #[.agg #[.slice AG GS.length cG, .slice (some A) F.length cF], .slice AI inp.length cI, .int .i64 (f : Int)] (by rfl) rfl rfl (by first | rfl | (simp only [List.map_toArray, List.map_cons, List.map_nil]; done) | (simp only [List.map_toArray, List.map_cons, List.map_nil]; rfl)) ?_
        refine (ref_at (HLW5.out.keep hHeld.2.2.out) HO.out inp AI cI (f : Int) HGG.out HF.out HIT.out HCF.out HCG.out HCI.out HWI.out HL3.out (by have := HF4.out; omega)).mono ?_
        rintro e_ w12 ⟨ec, vc, Gc, A12, c12, hc, rfl, hl11, hC11, hB_⟩
        rw [HRT.out] at hc
        injection hc with hc1 hc2 hc3
        subst hc1 hc2 hc3
        have HC2 := Aside0.mk (hC11.mono (Y := (fun k => k = g9)) (fun k hk => hk ▸ blk_lt HB9.out))
        have HC1 := Aside0.mk (HC1.out.step hB_ (Y := (fun k => k = g9)) (fun k hk => Or.inl hk))
        have HB9 := Aside0.mk (blk_below HB9.out hB_)
        have HL12 := Aside0.mk hl11
        clear hC11 hl11
        refine ⟨_, rfl, ?_⟩
        refine hK.out _ _ ⟨pw_cell_below hB_ hHeld.1, pw_cell_below hB_ hHeld.2.1, ⟨below_then hHeld.2.2.out hHeld.2.2.out.size hB_⟩⟩ (fun hHeld => ?_)
        clear hK K
        refine norm_ (a' := ?_) ?_ ?_
        rotate_left
        · show Act.put _ (some 27) _ = _
          simp only [ps_]
          rfl
        refine one_ (i := 9) (N := some 8) #[true, true, true, true, true, true, true, true, true, true, false, false] rfl rfl (by kernel_rfl) (by decide) (fun K hK => ?_)
        refine box_step (by rfl) (N := 8) rfl (cs := #[.int .i64 0, .int .i32 0, .slice none 0 0, .int .i64 0, .int .i64 0]) (t := 32) (by first | (go_simp; done) | (go_simp; rfl)) ?_
        intro g10 hg_ w13 hb_ hB_
        have HC1 := Aside0.mk (HC1.out.step hB_ (Y := fun k => k = g9 ∨ k = g10) (fun k hk => hk.elim (fun h => .inl h) (fun h => .inr (Nat.le_of_eq (h.trans hg_).symm))))
        have HC2 := Aside0.mk (HC2.out.step hB_ (Y := fun k => k = g9 ∨ k = g10) (fun k hk => hk.elim (fun h => .inl h) (fun h => .inr (Nat.le_of_eq (h.trans hg_).symm))))
        have HNE : Aside0 (g9 ≠ g10) := ⟨fun e_ => by have h1_ := blk_lt HB9.out; omega⟩
        have HB9 := Aside0.mk (blk_below HB9.out hB_)
        have HB10 := Aside0.mk hb_
        have HG10 : Aside0 (w5.heap.size ≤ g10) := ⟨Nat.le_trans hHeld.2.2.out.size (Nat.le_of_eq hg_.symm)⟩
        clear hb_ hg_
        refine hK.out _ _ ⟨pw_cell_below hB_ hHeld.1, pw_cell_below hB_ hHeld.2.1, ⟨below_then hHeld.2.2.out hHeld.2.2.out.size hB_⟩⟩ (fun hHeld => ?_)
        clear hK K
        refine norm_ (a' := ?_) ?_ ?_
        rotate_left
        · show Act.put _ (some 8) _ = _
          simp only [ps_]
          rfl
        refine norm_ (by kernel_rfl) (hfin ⟨A11, c11, A12, c12, g9, g10⟩ _ ⟨hHeld.2.2, HC1, HL11, HC2, HL12, HB9, HB10, ⟨⟨HNE.out, HG9.out, HG10.out⟩⟩⟩)
      · refine box_step (by rfl) (N := 8) rfl (cs := #[.int .i64 0, .int .i32 0, .slice none 0 0, .int .i64 0, .int .i64 0]) (t := 32) (by first | (go_simp; done) | (go_simp; rfl)) ?_
        intro g10 hg_ w13 hb_ hB_
        have HC1 := Aside0.mk (HC1.out.step hB_ (Y := fun k => k = g9 ∨ k = g10) (fun k hk => hk.elim (fun h => .inl h) (fun h => .inr (Nat.le_of_eq (h.trans hg_).symm))))
        have HNE : Aside0 (g9 ≠ g10) := ⟨fun e_ => by have h1_ := blk_lt HB9.out; omega⟩
        have HB9 := Aside0.mk (blk_below HB9.out hB_)
        have HB10 := Aside0.mk hb_
        have HG10 : Aside0 (w5.heap.size ≤ g10) := ⟨Nat.le_trans hHeld.2.2.out.size (Nat.le_of_eq hg_.symm)⟩
        clear hb_ hg_
        refine hK.out _ _ ⟨pw_cell_below hB_ hHeld.1, pw_cell_below hB_ hHeld.2.1, ⟨below_then hHeld.2.2.out hHeld.2.2.out.size hB_⟩⟩ (fun hHeld => ?_)
        clear hK K
        refine norm_ (a' := ?_) ?_ ?_
        rotate_left
        · show Act.put _ (some 8) _ = _
          simp only [ps_]
          rfl
        refine one_ (i := 7) (N := some 27) #[true, true, true, true, true, true, true, true, true, true, false, false] rfl rfl (by kernel_rfl) (by decide) (fun K hK => ?_)
        refine goes_ Try.func11 (by kernel_rfl) rfl #[.agg #[.slice AG GS.length cG, .slice (some A) F.length cF], .slice AI inp.length cI, .int .i64 (f : Int)] (by rfl) rfl rfl (by first | rfl | (simp only [List.map_toArray, List.map_cons, List.map_nil]; done) | (simp only [List.map_toArray, List.map_cons, List.map_nil]; rfl)) ?_
        refine (ref_at (HLW5.out.keep hHeld.2.2.out) HO.out inp AI cI (f : Int) HGG.out HF.out HIT.out HCF.out HCG.out HCI.out HWI.out HL3.out (by have := HF4.out; omega)).mono ?_
        rintro e_ w12 ⟨ec, vc, Gc, A12, c12, hc, rfl, hl11, hC11, hB_⟩
        rw [HRT.out] at hc
        injection hc with hc1 hc2 hc3
        subst hc1 hc2 hc3
        have HC2 := Aside0.mk (hC11.mono (Y := (fun k => k = g9 ∨ k = g10)) (fun k hk => hk.elim (fun h => h ▸ blk_lt HB9.out) (fun h => h ▸ blk_lt HB10.out)))
        have HC1 := Aside0.mk (HC1.out.step hB_ (Y := (fun k => k = g9 ∨ k = g10)) (fun k hk => Or.inl hk))
        have HB9 := Aside0.mk (blk_below HB9.out hB_)
        have HB10 := Aside0.mk (blk_below HB10.out hB_)
        have HL12 := Aside0.mk hl11
        clear hC11 hl11
        refine ⟨_, rfl, ?_⟩
        refine hK.out _ _ ⟨pw_cell_below hB_ hHeld.1, pw_cell_below hB_ hHeld.2.1, ⟨below_then hHeld.2.2.out hHeld.2.2.out.size hB_⟩⟩ (fun hHeld => ?_)
        clear hK K
        refine norm_ (a' := ?_) ?_ ?_
        rotate_left
        · show Act.put _ (some 27) _ = _
          simp only [ps_]
          rfl
        refine norm_ (by kernel_rfl) (hfin ⟨A11, c11, A12, c12, g9, g10⟩ _ ⟨hHeld.2.2, HC1, HL11, HC2, HL12, HB9, HB10, ⟨⟨HNE.out, HG9.out, HG10.out⟩⟩⟩)
    · refine box_step (by rfl) (N := 8) rfl (cs := #[.int .i64 0, .int .i32 0, .slice none 0 0, .int .i64 0, .int .i64 0]) (t := 32) (by first | (go_simp; done) | (go_simp; rfl)) ?_
      intro g10 hg_ w13 hb_ hB_
      have HNE : Aside0 (g9 ≠ g10) := ⟨fun e_ => by have h1_ := blk_lt HB9.out; omega⟩
      have HB9 := Aside0.mk (blk_below HB9.out hB_)
      have HB10 := Aside0.mk hb_
      have HG10 : Aside0 (w5.heap.size ≤ g10) := ⟨Nat.le_trans hHeld.2.2.out.size (Nat.le_of_eq hg_.symm)⟩
      clear hb_ hg_
      refine hK.out _ _ ⟨pw_cell_below hB_ hHeld.1, pw_cell_below hB_ hHeld.2.1, ⟨below_then hHeld.2.2.out hHeld.2.2.out.size hB_⟩⟩ (fun hHeld => ?_)
      clear hK K
      refine norm_ (a' := ?_) ?_ ?_
      rotate_left
      · show Act.put _ (some 8) _ = _
        simp only [ps_]
        rfl
      refine one_ (i := 3) (N := some 23) #[true, true, true, true, true, true, true, false, true, true, false, false] rfl rfl (by kernel_rfl) (by decide) (fun K hK => ?_)
      refine goes_ Try.func10 (by kernel_rfl) rfl #[.agg #[.slice AG GS.length cG, .slice (some A) F.length cF], .slice AI inp.length cI, .int .i64 (f : Int)] (by rfl) rfl rfl (by first | rfl | (simp only [List.map_toArray, List.map_cons, List.map_nil]; done) | (simp only [List.map_toArray, List.map_cons, List.map_nil]; rfl)) ?_
      refine (trace_at (HLW5.out.keep hHeld.2.2.out) HO.out inp AI cI (f : Int) HGG.out HF.out HIT.out HCF.out HCG.out HCI.out HWI.out HL3.out (by have := HF4.out; omega)).mono ?_
      rintro e_ w11 ⟨ec, vc, Gc, A11, c11, hc, rfl, hl11, hC11, hB_⟩
      rw [HRT.out] at hc
      injection hc with hc1 hc2 hc3
      subst hc1 hc2 hc3
      have HC1 := Aside0.mk (hC11.mono (Y := (fun k => k = g9 ∨ k = g10)) (fun k hk => hk.elim (fun h => h ▸ blk_lt HB9.out) (fun h => h ▸ blk_lt HB10.out)))
      have HB9 := Aside0.mk (blk_below HB9.out hB_)
      have HB10 := Aside0.mk (blk_below HB10.out hB_)
      have HL11 := Aside0.mk hl11
      clear hC11 hl11
      refine ⟨_, rfl, ?_⟩
      refine hK.out _ _ ⟨pw_cell_below hB_ hHeld.1, pw_cell_below hB_ hHeld.2.1, ⟨below_then hHeld.2.2.out hHeld.2.2.out.size hB_⟩⟩ (fun hHeld => ?_)
      clear hK K
      refine norm_ (a' := ?_) ?_ ?_
      rotate_left
      · show Act.put _ (some 23) _ = _
        simp only [ps_]
        rfl
      refine one_ (i := 7) (N := some 27) #[true, true, true, true, true, true, true, true, true, true, false, false] rfl rfl (by kernel_rfl) (by decide) (fun K hK => ?_)
      refine goes_ Try.func11 (by kernel_rfl) rfl #[.agg #[.slice AG GS.length cG, .slice (some A) F.length cF], .slice AI inp.length cI, .int .i64 (f : Int)] (by rfl) rfl rfl (by first | rfl | (simp only [List.map_toArray, List.map_cons, List.map_nil]; done) | (simp only [List.map_toArray, List.map_cons, List.map_nil]; rfl)) ?_
      refine (ref_at (HLW5.out.keep hHeld.2.2.out) HO.out inp AI cI (f : Int) HGG.out HF.out HIT.out HCF.out HCG.out HCI.out HWI.out HL3.out (by have := HF4.out; omega)).mono ?_
      rintro e_ w12 ⟨ec, vc, Gc, A12, c12, hc, rfl, hl11, hC11, hB_⟩
      rw [HRT.out] at hc
      injection hc with hc1 hc2 hc3
      subst hc1 hc2 hc3
      have HC2 := Aside0.mk (hC11.mono (Y := (fun k => k = g9 ∨ k = g10)) (fun k hk => hk.elim (fun h => h ▸ blk_lt HB9.out) (fun h => h ▸ blk_lt HB10.out)))
      have HC1 := Aside0.mk (HC1.out.step hB_ (Y := (fun k => k = g9 ∨ k = g10)) (fun k hk => Or.inl hk))
      have HB9 := Aside0.mk (blk_below HB9.out hB_)
      have HB10 := Aside0.mk (blk_below HB10.out hB_)
      have HL12 := Aside0.mk hl11
      clear hC11 hl11
      refine ⟨_, rfl, ?_⟩
      refine hK.out _ _ ⟨pw_cell_below hB_ hHeld.1, pw_cell_below hB_ hHeld.2.1, ⟨below_then hHeld.2.2.out hHeld.2.2.out.size hB_⟩⟩ (fun hHeld => ?_)
      clear hK K
      refine norm_ (a' := ?_) ?_ ?_
      rotate_left
      · show Act.put _ (some 27) _ = _
        simp only [ps_]
        rfl
      refine norm_ (by kernel_rfl) (hfin ⟨A11, c11, A12, c12, g9, g10⟩ _ ⟨hHeld.2.2, HC1, HL11, HC2, HL12, HB9, HB10, ⟨⟨HNE.out, HG9.out, HG10.out⟩⟩⟩)
  · refine box_step (by rfl) (N := 8) rfl (cs := #[.int .i64 0, .int .i32 0, .slice none 0 0, .int .i64 0, .int .i64 0]) (t := 32) (by first | (go_simp; done) | (go_simp; rfl)) ?_
    intro g10 hg_ w13 hb_ hB_
    have HB10 := Aside0.mk hb_
    have HG10 : Aside0 (w5.heap.size ≤ g10) := ⟨Nat.le_trans hHeld.2.2.out.size (Nat.le_of_eq hg_.symm)⟩
    clear hb_ hg_
    refine hK.out _ _ ⟨pw_cell_below hB_ hHeld.1, pw_cell_below hB_ hHeld.2.1, ⟨below_then hHeld.2.2.out hHeld.2.2.out.size hB_⟩⟩ (fun hHeld => ?_)
    clear hK K
    refine norm_ (a' := ?_) ?_ ?_
    rotate_left
    · show Act.put _ (some 8) _ = _
      simp only [ps_]
      rfl
    refine two_ (i := 3) (j := 8) (Ni := some 23) (Nj := some 7) #[true, true, true, true, true, true, true, false, false, true, false, false] #[true, true, true, false, true, true, true, false, true, true, false, false] rfl rfl rfl rfl (by kernel_rfl) (by decide) (by decide) (fun K hK => ?_) (fun K hK => ?_)
    · refine goes_ Try.func10 (by kernel_rfl) rfl #[.agg #[.slice AG GS.length cG, .slice (some A) F.length cF], .slice AI inp.length cI, .int .i64 (f : Int)] (by rfl) rfl rfl (by first | rfl | (simp only [List.map_toArray, List.map_cons, List.map_nil]; done) | (simp only [List.map_toArray, List.map_cons, List.map_nil]; rfl)) ?_
      refine (trace_at (HLW5.out.keep hHeld.2.2.out) HO.out inp AI cI (f : Int) HGG.out HF.out HIT.out HCF.out HCG.out HCI.out HWI.out HL3.out (by have := HF4.out; omega)).mono ?_
      rintro e_ w11 ⟨ec, vc, Gc, A11, c11, hc, rfl, hl11, hC11, hB_⟩
      rw [HRT.out] at hc
      injection hc with hc1 hc2 hc3
      subst hc1 hc2 hc3
      have HC1 := Aside0.mk (hC11.mono (Y := (fun k => k = g10)) (fun k hk => hk ▸ blk_lt HB10.out))
      have HB10 := Aside0.mk (blk_below HB10.out hB_)
      have HL11 := Aside0.mk hl11
      clear hC11 hl11
      refine ⟨_, rfl, ?_⟩
      refine hK.out _ _ ⟨pw_cell_below hB_ hHeld.1, pw_cell_below hB_ hHeld.2.1, ⟨below_then hHeld.2.2.out hHeld.2.2.out.size hB_⟩⟩ (fun hHeld => ?_)
      clear hK K
      refine norm_ (a' := ?_) ?_ ?_
      rotate_left
      · show Act.put _ (some 23) _ = _
        simp only [ps_]
        rfl
      refine two_ (i := 7) (j := 8) (Ni := some 27) (Nj := some 7) #[true, true, true, true, true, true, true, true, false, true, false, false] #[true, true, true, true, true, true, true, false, true, true, false, false] rfl rfl rfl rfl (by kernel_rfl) (by decide) (by decide) (fun K hK => ?_) (fun K hK => ?_)
      · refine goes_ Try.func11 (by kernel_rfl) rfl #[.agg #[.slice AG GS.length cG, .slice (some A) F.length cF], .slice AI inp.length cI, .int .i64 (f : Int)] (by rfl) rfl rfl (by first | rfl | (simp only [List.map_toArray, List.map_cons, List.map_nil]; done) | (simp only [List.map_toArray, List.map_cons, List.map_nil]; rfl)) ?_
        refine (ref_at (HLW5.out.keep hHeld.2.2.out) HO.out inp AI cI (f : Int) HGG.out HF.out HIT.out HCF.out HCG.out HCI.out HWI.out HL3.out (by have := HF4.out; omega)).mono ?_
        rintro e_ w12 ⟨ec, vc, Gc, A12, c12, hc, rfl, hl11, hC11, hB_⟩
        rw [HRT.out] at hc
        injection hc with hc1 hc2 hc3
        subst hc1 hc2 hc3
        have HC2 := Aside0.mk (hC11.mono (Y := (fun k => k = g10)) (fun k hk => hk ▸ blk_lt HB10.out))
        have HC1 := Aside0.mk (HC1.out.step hB_ (Y := (fun k => k = g10)) (fun k hk => Or.inl hk))
        have HB10 := Aside0.mk (blk_below HB10.out hB_)
        have HL12 := Aside0.mk hl11
        clear hC11 hl11
        refine ⟨_, rfl, ?_⟩
        refine hK.out _ _ ⟨pw_cell_below hB_ hHeld.1, pw_cell_below hB_ hHeld.2.1, ⟨below_then hHeld.2.2.out hHeld.2.2.out.size hB_⟩⟩ (fun hHeld => ?_)
        clear hK K
        refine norm_ (a' := ?_) ?_ ?_
        rotate_left
        · show Act.put _ (some 27) _ = _
          simp only [ps_]
          rfl
        refine one_ (i := 8) (N := some 7) #[true, true, true, true, true, true, true, true, true, true, false, false] rfl rfl (by kernel_rfl) (by decide) (fun K hK => ?_)
        refine box_step (by rfl) (N := 7) rfl (cs := #[.int .i64 0, .int .i32 0, .slice none 0 0, .int .i64 0, .int .i64 0]) (t := 32) (by first | (go_simp; done) | (go_simp; rfl)) ?_
        intro g9 hg_ w13 hb_ hB_
        have HC1 := Aside0.mk (HC1.out.step hB_ (Y := fun k => k = g9 ∨ k = g10) (fun k hk => hk.elim (fun h => .inr (Nat.le_of_eq (h.trans hg_).symm)) (fun h => .inl h)))
        have HC2 := Aside0.mk (HC2.out.step hB_ (Y := fun k => k = g9 ∨ k = g10) (fun k hk => hk.elim (fun h => .inr (Nat.le_of_eq (h.trans hg_).symm)) (fun h => .inl h)))
        have HNE : Aside0 (g9 ≠ g10) := ⟨fun e_ => by have h1_ := blk_lt HB10.out; omega⟩
        have HB10 := Aside0.mk (blk_below HB10.out hB_)
        have HB9 := Aside0.mk hb_
        have HG9 : Aside0 (w5.heap.size ≤ g9) := ⟨Nat.le_trans hHeld.2.2.out.size (Nat.le_of_eq hg_.symm)⟩
        clear hb_ hg_
        refine hK.out _ _ ⟨pw_cell_below hB_ hHeld.1, pw_cell_below hB_ hHeld.2.1, ⟨below_then hHeld.2.2.out hHeld.2.2.out.size hB_⟩⟩ (fun hHeld => ?_)
        clear hK K
        refine norm_ (a' := ?_) ?_ ?_
        rotate_left
        · show Act.put _ (some 7) _ = _
          simp only [ps_]
          rfl
        refine norm_ (by kernel_rfl) (hfin ⟨A11, c11, A12, c12, g9, g10⟩ _ ⟨hHeld.2.2, HC1, HL11, HC2, HL12, HB9, HB10, ⟨⟨HNE.out, HG9.out, HG10.out⟩⟩⟩)
      · refine box_step (by rfl) (N := 7) rfl (cs := #[.int .i64 0, .int .i32 0, .slice none 0 0, .int .i64 0, .int .i64 0]) (t := 32) (by first | (go_simp; done) | (go_simp; rfl)) ?_
        intro g9 hg_ w13 hb_ hB_
        have HC1 := Aside0.mk (HC1.out.step hB_ (Y := fun k => k = g9 ∨ k = g10) (fun k hk => hk.elim (fun h => .inr (Nat.le_of_eq (h.trans hg_).symm)) (fun h => .inl h)))
        have HNE : Aside0 (g9 ≠ g10) := ⟨fun e_ => by have h1_ := blk_lt HB10.out; omega⟩
        have HB10 := Aside0.mk (blk_below HB10.out hB_)
        have HB9 := Aside0.mk hb_
        have HG9 : Aside0 (w5.heap.size ≤ g9) := ⟨Nat.le_trans hHeld.2.2.out.size (Nat.le_of_eq hg_.symm)⟩
        clear hb_ hg_
        refine hK.out _ _ ⟨pw_cell_below hB_ hHeld.1, pw_cell_below hB_ hHeld.2.1, ⟨below_then hHeld.2.2.out hHeld.2.2.out.size hB_⟩⟩ (fun hHeld => ?_)
        clear hK K
        refine norm_ (a' := ?_) ?_ ?_
        rotate_left
        · show Act.put _ (some 7) _ = _
          simp only [ps_]
          rfl
        refine one_ (i := 7) (N := some 27) #[true, true, true, true, true, true, true, true, true, true, false, false] rfl rfl (by kernel_rfl) (by decide) (fun K hK => ?_)
        refine goes_ Try.func11 (by kernel_rfl) rfl #[.agg #[.slice AG GS.length cG, .slice (some A) F.length cF], .slice AI inp.length cI, .int .i64 (f : Int)] (by rfl) rfl rfl (by first | rfl | (simp only [List.map_toArray, List.map_cons, List.map_nil]; done) | (simp only [List.map_toArray, List.map_cons, List.map_nil]; rfl)) ?_
        refine (ref_at (HLW5.out.keep hHeld.2.2.out) HO.out inp AI cI (f : Int) HGG.out HF.out HIT.out HCF.out HCG.out HCI.out HWI.out HL3.out (by have := HF4.out; omega)).mono ?_
        rintro e_ w12 ⟨ec, vc, Gc, A12, c12, hc, rfl, hl11, hC11, hB_⟩
        rw [HRT.out] at hc
        injection hc with hc1 hc2 hc3
        subst hc1 hc2 hc3
        have HC2 := Aside0.mk (hC11.mono (Y := (fun k => k = g9 ∨ k = g10)) (fun k hk => hk.elim (fun h => h ▸ blk_lt HB9.out) (fun h => h ▸ blk_lt HB10.out)))
        have HC1 := Aside0.mk (HC1.out.step hB_ (Y := (fun k => k = g9 ∨ k = g10)) (fun k hk => Or.inl hk))
        have HB9 := Aside0.mk (blk_below HB9.out hB_)
        have HB10 := Aside0.mk (blk_below HB10.out hB_)
        have HL12 := Aside0.mk hl11
        clear hC11 hl11
        refine ⟨_, rfl, ?_⟩
        refine hK.out _ _ ⟨pw_cell_below hB_ hHeld.1, pw_cell_below hB_ hHeld.2.1, ⟨below_then hHeld.2.2.out hHeld.2.2.out.size hB_⟩⟩ (fun hHeld => ?_)
        clear hK K
        refine norm_ (a' := ?_) ?_ ?_
        rotate_left
        · show Act.put _ (some 27) _ = _
          simp only [ps_]
          rfl
        refine norm_ (by kernel_rfl) (hfin ⟨A11, c11, A12, c12, g9, g10⟩ _ ⟨hHeld.2.2, HC1, HL11, HC2, HL12, HB9, HB10, ⟨⟨HNE.out, HG9.out, HG10.out⟩⟩⟩)
    · refine box_step (by rfl) (N := 7) rfl (cs := #[.int .i64 0, .int .i32 0, .slice none 0 0, .int .i64 0, .int .i64 0]) (t := 32) (by first | (go_simp; done) | (go_simp; rfl)) ?_
      intro g9 hg_ w13 hb_ hB_
      have HNE : Aside0 (g9 ≠ g10) := ⟨fun e_ => by have h1_ := blk_lt HB10.out; omega⟩
      have HB10 := Aside0.mk (blk_below HB10.out hB_)
      have HB9 := Aside0.mk hb_
      have HG9 : Aside0 (w5.heap.size ≤ g9) := ⟨Nat.le_trans hHeld.2.2.out.size (Nat.le_of_eq hg_.symm)⟩
      clear hb_ hg_
      refine hK.out _ _ ⟨pw_cell_below hB_ hHeld.1, pw_cell_below hB_ hHeld.2.1, ⟨below_then hHeld.2.2.out hHeld.2.2.out.size hB_⟩⟩ (fun hHeld => ?_)
      clear hK K
      refine norm_ (a' := ?_) ?_ ?_
      rotate_left
      · show Act.put _ (some 7) _ = _
        simp only [ps_]
        rfl
      refine one_ (i := 3) (N := some 23) #[true, true, true, true, true, true, true, false, true, true, false, false] rfl rfl (by kernel_rfl) (by decide) (fun K hK => ?_)
      refine goes_ Try.func10 (by kernel_rfl) rfl #[.agg #[.slice AG GS.length cG, .slice (some A) F.length cF], .slice AI inp.length cI, .int .i64 (f : Int)] (by rfl) rfl rfl (by first | rfl | (simp only [List.map_toArray, List.map_cons, List.map_nil]; done) | (simp only [List.map_toArray, List.map_cons, List.map_nil]; rfl)) ?_
      refine (trace_at (HLW5.out.keep hHeld.2.2.out) HO.out inp AI cI (f : Int) HGG.out HF.out HIT.out HCF.out HCG.out HCI.out HWI.out HL3.out (by have := HF4.out; omega)).mono ?_
      rintro e_ w11 ⟨ec, vc, Gc, A11, c11, hc, rfl, hl11, hC11, hB_⟩
      rw [HRT.out] at hc
      injection hc with hc1 hc2 hc3
      subst hc1 hc2 hc3
      have HC1 := Aside0.mk (hC11.mono (Y := (fun k => k = g9 ∨ k = g10)) (fun k hk => hk.elim (fun h => h ▸ blk_lt HB9.out) (fun h => h ▸ blk_lt HB10.out)))
      have HB9 := Aside0.mk (blk_below HB9.out hB_)
      have HB10 := Aside0.mk (blk_below HB10.out hB_)
      have HL11 := Aside0.mk hl11
      clear hC11 hl11
      refine ⟨_, rfl, ?_⟩
      refine hK.out _ _ ⟨pw_cell_below hB_ hHeld.1, pw_cell_below hB_ hHeld.2.1, ⟨below_then hHeld.2.2.out hHeld.2.2.out.size hB_⟩⟩ (fun hHeld => ?_)
      clear hK K
      refine norm_ (a' := ?_) ?_ ?_
      rotate_left
      · show Act.put _ (some 23) _ = _
        simp only [ps_]
        rfl
      refine one_ (i := 7) (N := some 27) #[true, true, true, true, true, true, true, true, true, true, false, false] rfl rfl (by kernel_rfl) (by decide) (fun K hK => ?_)
      refine goes_ Try.func11 (by kernel_rfl) rfl #[.agg #[.slice AG GS.length cG, .slice (some A) F.length cF], .slice AI inp.length cI, .int .i64 (f : Int)] (by rfl) rfl rfl (by first | rfl | (simp only [List.map_toArray, List.map_cons, List.map_nil]; done) | (simp only [List.map_toArray, List.map_cons, List.map_nil]; rfl)) ?_
      refine (ref_at (HLW5.out.keep hHeld.2.2.out) HO.out inp AI cI (f : Int) HGG.out HF.out HIT.out HCF.out HCG.out HCI.out HWI.out HL3.out (by have := HF4.out; omega)).mono ?_
      rintro e_ w12 ⟨ec, vc, Gc, A12, c12, hc, rfl, hl11, hC11, hB_⟩
      rw [HRT.out] at hc
      injection hc with hc1 hc2 hc3
      subst hc1 hc2 hc3
      have HC2 := Aside0.mk (hC11.mono (Y := (fun k => k = g9 ∨ k = g10)) (fun k hk => hk.elim (fun h => h ▸ blk_lt HB9.out) (fun h => h ▸ blk_lt HB10.out)))
      have HC1 := Aside0.mk (HC1.out.step hB_ (Y := (fun k => k = g9 ∨ k = g10)) (fun k hk => Or.inl hk))
      have HB9 := Aside0.mk (blk_below HB9.out hB_)
      have HB10 := Aside0.mk (blk_below HB10.out hB_)
      have HL12 := Aside0.mk hl11
      clear hC11 hl11
      refine ⟨_, rfl, ?_⟩
      refine hK.out _ _ ⟨pw_cell_below hB_ hHeld.1, pw_cell_below hB_ hHeld.2.1, ⟨below_then hHeld.2.2.out hHeld.2.2.out.size hB_⟩⟩ (fun hHeld => ?_)
      clear hK K
      refine norm_ (a' := ?_) ?_ ?_
      rotate_left
      · show Act.put _ (some 27) _ = _
        simp only [ps_]
        rfl
      refine norm_ (by kernel_rfl) (hfin ⟨A11, c11, A12, c12, g9, g10⟩ _ ⟨hHeld.2.2, HC1, HL11, HC2, HL12, HB9, HB10, ⟨⟨HNE.out, HG9.out, HG10.out⟩⟩⟩)
  intro s w14 ⟨HZ14, HC1, HL11, HC2, HL12, HB9, HB10, HNE⟩
  refine norm_ (a' := ?_) ?_ ?_
  rotate_left
  · simp only [putAll, List.foldl, ps_]
    rfl
  refine last_ (i := 10) (N := none) #[true, true, true, true, true, true, true, true, true, true, true, false] rfl rfl (by kernel_rfl) (by decide) (fun K hK => ?_)
  rw [if_pos (by rfl)]
  refine put_step_ 32 (.tmp 7) (.tmp 23) rfl s.g1 (by rfl) 32 #[.int .i64 0, .int .i32 0, .slice none 0 0, .int .i64 0, .int .i64 0] #[.int .i64 ea, .int .i32 va, .slice s.A1 Ga.tr.length s.c1, .int .i64 (Ga.st : Int), .int .i64 (Ga.rd : Int)] (by rfl) HB9.out I32.out (by rfl) (by simp [Value.oneCell']) ?_
  intro w15 hr_ hB_ ho_
  have HR9 := Aside0.mk hr_
  have HR10 := Aside0.mk ((ho_ s.g2 (Ne.symm HNE.out.1)).trans HB10.out)
  have HO9 := Aside0.mk ho_
  have HZ15 := Aside0.mk (HZ14.out.trans (hB_ _ HNE.out.2.1))
  clear hr_ hB_ ho_
  refine hK.out _ _ ?_
  clear hK K
  refine last_ (i := 11) (N := none) #[true, true, true, true, true, true, true, true, true, true, true, true] rfl rfl (by kernel_rfl) (by decide) (fun K hK => ?_)
  rw [if_pos (by rfl)]
  refine put_step_ 32 (.tmp 8) (.tmp 27) rfl s.g2 (by rfl) 32 #[.int .i64 0, .int .i32 0, .slice none 0 0, .int .i64 0, .int .i64 0] #[.int .i64 ea, .int .i32 va, .slice s.A2 Ga.tr.length s.c2, .int .i64 (Ga.st : Int), .int .i64 (Ga.rd : Int)] (by rfl) HR10.out I32.out (by rfl) (by simp [Value.oneCell']) ?_
  intro w16 hr_ hB_ ho_
  have HR10_ := Aside0.mk hr_
  have HR9_ := Aside0.mk ((ho_ s.g1 HNE.out.1).trans HR9.out)
  have HCF1 := Aside0.mk (HC1.out _ (fun k _ hn => (ho_ k (fun e => hn (.inr e))).trans (HO9.out k (fun e => hn (.inl e)))))
  have HCF2 := Aside0.mk (HC2.out _ (fun k _ hn => (ho_ k (fun e => hn (.inr e))).trans (HO9.out k (fun e => hn (.inl e)))))
  have HZ16 := Aside0.mk (HZ15.out.trans (hB_ _ HNE.out.2.2))
  clear hr_ hB_ ho_
  refine hK.out _ _ ?_
  clear hK K
  refine done_ (by kernel_rfl) ?_
  have HBL16 := Aside0.mk (HLW5.out.keep HZ16.out)
  have m0 := HBL16.out.c0
  have m1 := HBL16.out.c1
  go_wp2_with (first
    | (go_at_call 10; (with_reducible refine (none_at HBL16.out HO.out inp AI cI HGG.out HF.out HIT.out HCF.out HCG.out HCI.out HWI.out HL3.out).mono ?_)
       rintro e w18 ⟨A18, c18, rfl, hB18⟩
       have HLW18 := Aside0.mk (HBL16.out.keep hB18)
       have HR9 := Aside0.mk (blk_below HR9_.out hB18)
       have HR10 := Aside0.mk (blk_below HR10_.out hB18)
       have HCG1 := Aside0.mk (Kd.C_below HCF1.out hB18)
       have HCG2 := Aside0.mk (Kd.C_below HCF2.out hB18)
       have m0 := HLW18.out.c0
       have m1 := HLW18.out.c1
       clear hB18)
    | ((with_reducible refine gate_dst (N := 9) rfl ?_)
       refine box_event rfl (N := 9) rfl (cs := #[.int .i64 0, .int .i32 0, .slice none 0 0, .int .i64 0, .int .i64 0]) (t := 32) ?hr ?_
       case hr => first | (go_simp; done) | (go_simp; rfl)
       intro gz hg w18x hbox hb; have hz0 : w18x.cell? ⟨gz, 0, none⟩ = some (.int .i64 0) := (blk_cell hbox 0).trans rfl; have hf0 := blk_frozen hbox 0; have hz1 : w18x.cell? ⟨gz, 1, none⟩ = some (.int .i32 0) := (blk_cell hbox 1).trans rfl; have hf1 := blk_frozen hbox 1; have hz2 : w18x.cell? ⟨gz, 2, none⟩ = some (.slice none 0 0) := (blk_cell hbox 2).trans rfl; have hf2 := blk_frozen hbox 2; have hz3 : w18x.cell? ⟨gz, 3, none⟩ = some (.int .i64 0) := (blk_cell hbox 3).trans rfl; have hf3 := blk_frozen hbox 3; have hz4 : w18x.cell? ⟨gz, 4, none⟩ = some (.int .i64 0) := (blk_cell hbox 4).trans rfl; have hf4 := blk_frozen hbox 4
       have HG := Aside0.mk (Nat.le_of_eq hg.symm)
       clear hg)
    | ((with_reducible refine gate_store (t := 32) (p := 9) rfl ?_)
       refine store_event (w1 := (((((w18x.setCell ⟨gz, 0, none⟩ (.int .i64 5)).setCell ⟨gz, 1, none⟩ (.int .i32 0)).setCell ⟨gz, 2, none⟩ (.slice A18 (Gl.start GS).tr.length c18)).setCell ⟨gz, 3, none⟩ (.int .i64 0)).setCell ⟨gz, 4, none⟩ (.int .i64 0))) rfl (t := 32) (p := 9) rfl rfl ?hr ?_
       case hr => first | (go_simp; done) | (go_simp; rfl)
       intro w19 hw
       have hcb := hw ▸ fill5 (g := gz) hbox
       have hbl := hw ▸ fillB5 (g := gz) hb HG.out
       have HLW19 := Aside0.mk (HLW18.out.keep hbl)
       have m0 := HLW19.out.c0
       have m1 := HLW19.out.c1
       have HN9 := Aside0.mk (blk_below HR9.out hbl)
       have HN10 := Aside0.mk (blk_below HR10.out hbl)
       have HD1 := Aside0.mk (Kd.C_below HCG1.out hbl)
       have HD2 := Aside0.mk (Kd.C_below HCG2.out hbl)
       have x0 : w19.cell? ⟨s.g1, 0, none⟩ = some (.int .i64 ea) := (blk_cell HN9.out 0).trans rfl
       have x1 : w19.cell? ⟨s.g1, 1, none⟩ = some (.int .i32 va) := (blk_cell HN9.out 1).trans rfl
       have x2 : w19.cell? ⟨s.g1, 2, none⟩ = some (.slice s.A1 Ga.tr.length s.c1) := (blk_cell HN9.out 2).trans rfl
       have x3 : w19.cell? ⟨s.g1, 3, none⟩ = some (.int .i64 (Ga.st : Int)) := (blk_cell HN9.out 3).trans rfl
       have x4 : w19.cell? ⟨s.g1, 4, none⟩ = some (.int .i64 (Ga.rd : Int)) := (blk_cell HN9.out 4).trans rfl
       have y0 : w19.cell? ⟨s.g2, 0, none⟩ = some (.int .i64 ea) := (blk_cell HN10.out 0).trans rfl
       have y1 : w19.cell? ⟨s.g2, 1, none⟩ = some (.int .i32 va) := (blk_cell HN10.out 1).trans rfl
       have y2 : w19.cell? ⟨s.g2, 2, none⟩ = some (.slice s.A2 Ga.tr.length s.c2) := (blk_cell HN10.out 2).trans rfl
       have y3 : w19.cell? ⟨s.g2, 3, none⟩ = some (.int .i64 (Ga.st : Int)) := (blk_cell HN10.out 3).trans rfl
       have y4 : w19.cell? ⟨s.g2, 4, none⟩ = some (.int .i64 (Ga.rd : Int)) := (blk_cell HN10.out 4).trans rfl
       have z0 : w19.cell? ⟨gz, 0, none⟩ = some (.int .i64 5) := (blk_cell hcb 0).trans rfl
       have z3 : w19.cell? ⟨gz, 3, none⟩ = some (.int .i64 0) := (blk_cell hcb 3).trans rfl
       have HZB := Aside0.mk hcb
       clear hcb hbl hw hbox hb hz0 hf0 hz1 hf1 hz2 hf2 hz3 hf3 hz4 hf4)
    | (go_at_call 12; (with_reducible refine (same_calls ea va s.A1 s.c1 Ga.tr (Ga.st : Int) (Ga.rd : Int) ea va s.A2 s.c2 Ga.tr (Ga.st : Int) (Ga.rd : Int) w19 HD1.out HL11.out HD2.out HL12.out HTR.out).mono ?_)
       rw [decide_eq_true (show ea = ea ∧ va = va ∧ (Ga.rd : Int) = (Ga.rd : Int) ∧ Ga.tr = Ga.tr from ⟨rfl, rfl, rfl, rfl⟩)]
       rintro e w20 ⟨rfl, hB20⟩
       have HLW20 := Aside0.mk (HLW19.out.keep hB20)
       have HM9 := Aside0.mk (blk_below HN9.out hB20)
       have HM10 := Aside0.mk (blk_below HN10.out hB20)
       have HMZ := Aside0.mk (blk_below HZB.out hB20)
       have x3 : w20.cell? ⟨s.g1, 3, none⟩ = some (.int .i64 (Ga.st : Int)) := (blk_cell HM9.out 3).trans rfl
       have y3 : w20.cell? ⟨s.g2, 3, none⟩ = some (.int .i64 (Ga.st : Int)) := (blk_cell HM10.out 3).trans rfl
       have z0 : w20.cell? ⟨gz, 0, none⟩ = some (.int .i64 5) := (blk_cell HMZ.out 0).trans rfl
       have z3 : w20.cell? ⟨gz, 3, none⟩ = some (.int .i64 0) := (blk_cell HMZ.out 3).trans rfl
       clear hB20)
    | (go_at_call 8; (with_reducible refine (lives_calls _).mono ?_)
       rintro e w21 ⟨rfl, hB21⟩
       have HBL21 := Aside0.mk (HLW20.out.keep hB21)
       clear hB21)
    | fail)
  go_ret
  exact ⟨rfl, HBL21.out.below⟩
end Go.Proofs.Ytabkinlpbefjgaa.L

