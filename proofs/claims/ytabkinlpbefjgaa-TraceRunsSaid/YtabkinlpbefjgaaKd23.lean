/- Texts of this seat that a claim bears, put together by this session's own program shake.py: TrW, TrX. -/
import Derived.Test.YtabkinlpbefjgaaKps
import Derived.Test.YtabkinlpbefjgaaKd22
namespace Go.Proofs.Ytabkinlpbefjgaa.L
open Go.RowKit Go.Proofs.Ytabkinlpbefjgaa.X Go.Proofs.YtabkinlpbefjgaaW.PrintWords Go.Proofs.YtabkinlpbefjgaaW.PrintLast Go.Proofs.YtabkinlpbefjgaaW.PrintMore
attribute [local go_sem] max2_int min2_int max_two min_two max_three min_three max_four min_four   -- for this text's walks alone
set_option linter.unusedVariables false
set_option linter.unusedSimpArgs false
set_option maxHeartbeats 8000000 in
set_option maxRecDepth 100000 in
theorem run_calls {V : Rv} (hV : RvOk V) (W : World) (hx : (W.heap.size, #[Value.pointer (some ⟨V.mb, 0, none⟩)], 49) ∈ V.xs) (hI : Inv V (W.alloc (.cells #[.pointer (some ⟨V.mb, 0, none⟩)] 49)) [] (Gl.start V.GS)) (hG : OkGl V.GS (Gl.start V.GS)) (hfuel : V.E.fuel ≤ 100000) :
    Calls Try.prog 17 #[.pointer (some ⟨V.mb, 0, none⟩)] W (RunPost V) := by
  have hmf : ∀ (fn : Fn) (first cap : Array Value) (w : World), (Instr.makeFunc fn first cap).run Try.prog w = .ok (.func fn first cap) w := fun _ _ _ _ => rfl
  have HI := Aside0.mk hI
  have HG := Aside0.mk hG
  have HV := Aside0.mk hV
  have HX := Aside0.mk hx
  have I41 : Aside0 ((Try.prog.info? 41).map (·.size) = some 5) := ⟨by kernel_rfl⟩
  have I44 : Aside0 ((Try.prog.info? 44).map (·.size) = some 8) := ⟨by kernel_rfl⟩
  clear hI hG hV hx
  go_enter_defers Try.func17, Try.ntmps17
  go_wp2_with (go_at_call 24; (with_reducible refine (enter_main HV.out HI.out).mono ?_); rintro e w1 ⟨rfl, cb, rb, hI1⟩; have HI1 := Aside0.mk hI1; clear hI1)
  clear HI
  obtain ⟨bx, hbx⟩ : ∃ bx, W.heap.size = bx := ⟨_, rfl⟩
  rw [hbx] at HX ⊢
  clear hbx
  go_loopg [2] (V.E.fuel.toNat) (fun kq v wr => ∃ ks G, Aside0 (Inv V wr ks G) ∧ Aside0 (OkSt V.F (ks.map (·.2.2))) ∧ Aside0 (OkGl V.GS G) ∧ Aside0 (ks ≠ []) ∧ Aside0 (ks.length ≤ 32) ∧ Aside0 (G.st + kq = V.E.fuel.toNat) ∧ Aside0 (G.tr.length ≤ G.st) ∧ Aside0 (runT V.F V.GS V.inp V.E.fuel = runS V.F V.GS V.inp V.E.fuel (kq + 1) (.go (ks.map (·.2.2)) G)))
  case atStart => exact ⟨[(cb, rb, newFr V.F mainB [] (-1))], Gl.start V.GS, HI1, ⟨newFr_ok HV.out.mid mainB [] (-1) HV.out.mid.main (by simp) (by simpa using HV.out.mid.main0)⟩, HG, ⟨by simp⟩, ⟨by simp⟩, ⟨Nat.zero_add _⟩, ⟨Nat.zero_le _⟩, ⟨rfl⟩⟩
  case round =>
    obtain ⟨ks, G, HI, HS, HGl, HN, HL, HK, HTR, HRUN⟩ := hrel
    cases ks with
    | nil => exact absurd rfl HN.out
    | cons kf rest =>
    obtain ⟨cb2, rb2, fr⟩ := kf
    have HS' : Aside0 (OkSt V.F (fr :: rest.map (fun k_ : Kf => k_.2.2))) := ⟨HS.out⟩
    have hF := HS.out.head
    have hfl := hF.blk
    have hrl : rest.length ≤ 31 := by have := HL.out; simp only [List.length_cons] at this; omega
    obtain ⟨ab, cap, tv, Ab, cB, Ai, cI, SN⟩ := seen HV.out HX.out HI.out hF
    have cbx : wr.cell? ⟨bx, 0, none⟩ = some (.pointer (some ⟨V.mb, 0, none⟩)) := (blk_cell SN.bx 0).trans rfl
    have c4 : wr.cell? ⟨V.mb, 4, none⟩ = some (.slice (some ⟨ab, 0, none⟩) (rest.length + 1) cap) := (blk_cell SN.mb 4).trans rfl
    have cab := SN.ab
    have k0 : wr.cell? ⟨cb2, 0, none⟩ = some (.pointer (some (V.fa fr.fn))) := (blk_cell SN.cb 0).trans rfl
    have k2 : wr.cell? ⟨cb2, 2, none⟩ = some (.int .i64 (fr.blk : Int)) := (blk_cell SN.cb 2).trans rfl
    have k3 : wr.cell? ⟨cb2, 3, none⟩ = some (.int .i64 (fr.ins : Int)) := (blk_cell SN.cb 3).trans rfl
    have f3 := SN.fn
    have b0 := SN.b0
    have b1 := SN.b1
    have b2 := SN.b2
    have b3 := SN.b3
    have b4 := SN.b4
    have q0 : IntKind.i64.wrap (rest.length : Int) = (rest.length : Int) := IntWalk.i64_in _ (by omega)
    have HF := Aside0.mk hF
    have HSN := Aside0.mk SN
    clear hF SN
    go_wp2
    go_quiet (fail)
    go_wp2
    refine start_ (n := 15) (S := fun w_ => w_.cell? ⟨cb2, 0, none⟩ = some (.pointer (some (V.fa fr.fn))) ∧ w_.cell? ⟨(V.fa fr.fn).block, (V.fa fr.fn).off + 3, none⟩ = some (.slice (some Ab) (fnOf V.F fr.fn).f3.length cB) ∧ w_.cell? ⟨cb2, 2, none⟩ = some (.int .i64 (fr.blk : Int)) ∧ w_.cell? (Ab.add (fr.blk * 5)) = some (.slice Ai (blkOf V.F fr).f0.length cI) ∧ w_.cell? ⟨(Ab.add (fr.blk * 5)).block, (Ab.add (fr.blk * 5)).off + 1, none⟩ = some (.int .i64 (blkOf V.F fr).f1) ∧ w_.cell? ⟨(Ab.add (fr.blk * 5)).block, (Ab.add (fr.blk * 5)).off + 2, none⟩ = some (.int .i64 (blkOf V.F fr).f2) ∧ w_.cell? ⟨(Ab.add (fr.blk * 5)).block, (Ab.add (fr.blk * 5)).off + 3, none⟩ = some (.int .i64 (blkOf V.F fr).f3) ∧ w_.cell? ⟨(Ab.add (fr.blk * 5)).block, (Ab.add (fr.blk * 5)).off + 4, none⟩ = some (.int .i64 (blkOf V.F fr).f4)) (ds := [14]) #[false, false, false, false, false, false, false, false, false, false, false, false, false, false, false] (by kernel_rfl) rfl rfl ⟨k0, f3, k2, b0, b1, b2, b3, b4⟩ (fun hHeld => ?_)
    refine pure_ (i := 0) (N := some 20) (v := ?_) (a' := ?_) #[true, false, false, false, false, false, false, false, false, false, false, false, false, false, false] rfl rfl (by kernel_rfl) (fun c_ a_ w_ h_ => panic_put h_) (Or.inl ⟨by rfl, ?_⟩) ?_ ?_
    rotate_left
    · intro w'
      go_simp
      with_reducible rfl
    rotate_left
    · simp only [ps_]
      rfl
    refine pure_ (i := 1) (N := some 21) (v := ?_) (a' := ?_) #[true, true, false, false, false, false, false, false, false, false, false, false, false, false, false] rfl rfl (by kernel_rfl) (fun c_ a_ w_ h_ => panic_put h_) (Or.inl ⟨by rfl, ?_⟩) ?_ ?_
    rotate_left
    · intro w'
      go_simp
      with_reducible rfl
    rotate_left
    · simp only [ps_]
      rfl
    refine pure_ (i := 2) (N := some 22) (v := ?_) (a' := ?_) #[true, true, true, false, false, false, false, false, false, false, false, false, false, false, false] rfl rfl (by kernel_rfl) (fun c_ a_ w_ h_ => panic_put h_) (Or.inl ⟨by rfl, ?_⟩) ?_ ?_
    rotate_left
    · intro w'
      go_simp
      with_reducible rfl
    rotate_left
    · simp only [ps_]
      rfl
    refine take_ (i := 3) (N := some 23) (v := ?_) (a' := ?_) #[true, true, true, true, false, false, false, false, false, false, false, false, false, false, false] rfl rfl (by kernel_rfl) (fun c_ a_ w_ h_ => panic_put h_) (Or.inl ⟨by rfl, ?_⟩) hHeld ?_ ?_
    rotate_left
    · rintro w' ⟨h0_, h1_, h2_, h3_, h4_, h5_, h6_, h7_⟩
      go_simp
      with_reducible rfl
    rotate_left
    · simp only [ps_]
      rfl
    refine pure_ (i := 4) (N := some 24) (v := ?_) (a' := ?_) #[true, true, true, true, true, false, false, false, false, false, false, false, false, false, false] rfl rfl (by kernel_rfl) (fun c_ a_ w_ h_ => panic_put h_) (Or.inl ⟨by rfl, ?_⟩) ?_ ?_
    rotate_left
    · intro w'
      go_simp
      with_reducible rfl
    rotate_left
    · simp only [ps_]
      rfl
    refine pure_ (i := 5) (N := some 25) (v := ?_) (a' := ?_) #[true, true, true, true, true, true, false, false, false, false, false, false, false, false, false] rfl rfl (by kernel_rfl) (fun c_ a_ w_ h_ => panic_put h_) (Or.inl ⟨by rfl, ?_⟩) ?_ ?_
    rotate_left
    · intro w'
      go_simp
      with_reducible rfl
    rotate_left
    · simp only [ps_]
      rfl
    refine take_ (i := 6) (N := some 26) (v := ?_) (a' := ?_) #[true, true, true, true, true, true, true, false, false, false, false, false, false, false, false] rfl rfl (by kernel_rfl) (fun c_ a_ w_ h_ => panic_put h_) (Or.inl ⟨by rfl, ?_⟩) hHeld ?_ ?_
    rotate_left
    · rintro w' ⟨h0_, h1_, h2_, h3_, h4_, h5_, h6_, h7_⟩
      go_simp
      with_reducible rfl
    rotate_left
    · simp only [ps_]
      rfl
    refine pure_ (i := 7) (N := some 27) (v := ?_) (a' := ?_) #[true, true, true, true, true, true, true, true, false, false, false, false, false, false, false] rfl rfl (by kernel_rfl) (fun c_ a_ w_ h_ => panic_put h_) (Or.inl ⟨by rfl, ?_⟩) ?_ ?_
    rotate_left
    · intro w'
      go_simp
      with_reducible rfl
    rotate_left
    · simp only [ps_]
      rfl
    refine pure_ (i := 8) (N := some 28) (v := ?_) (a' := ?_) #[true, true, true, true, true, true, true, true, true, false, false, false, false, false, false] rfl rfl (by kernel_rfl) (fun c_ a_ w_ h_ => panic_put h_) (Or.inl ⟨by rfl, ?_⟩) ?_ ?_
    rotate_left
    · intro w'
      go_simp
      with_reducible rfl
    rotate_left
    · simp only [ps_]
      rfl
    refine pure_ (i := 9) (N := some 29) (v := ?_) (a' := ?_) #[true, true, true, true, true, true, true, true, true, true, false, false, false, false, false] rfl rfl (by kernel_rfl) (fun c_ a_ w_ h_ => panic_put h_) (Or.inl ⟨by rfl, ?_⟩) ?_ ?_
    rotate_left
    · intro w'
      go_simp
      with_reducible rfl
    rotate_left
    · simp only [ps_]
      rfl
    refine take_ (i := 10) (N := some 30) (v := ?_) (a' := ?_) #[true, true, true, true, true, true, true, true, true, true, true, false, false, false, false] rfl rfl (by kernel_rfl) (fun c_ a_ w_ h_ => panic_put h_) (Or.inl ⟨by rfl, ?_⟩) hHeld ?_ ?_
    rotate_left
    · rintro w' ⟨h0_, h1_, h2_, h3_, h4_, h5_, h6_, h7_⟩
      go_simp
      with_reducible rfl
    rotate_left
    · simp only [ps_]
      rfl
    refine pure_ (i := 11) (N := some 31) (v := ?_) (a' := ?_) #[true, true, true, true, true, true, true, true, true, true, true, true, false, false, false] rfl rfl (by kernel_rfl) (fun c_ a_ w_ h_ => panic_put h_) (Or.inl ⟨by rfl, ?_⟩) ?_ ?_
    rotate_left
    · intro w'
      go_simp
      with_reducible rfl
    rotate_left
    · simp only [ps_]
      rfl
    refine take_ (i := 12) (N := some 32) (v := ?_) (a' := ?_) #[true, true, true, true, true, true, true, true, true, true, true, true, true, false, false] rfl rfl (by kernel_rfl) (fun c_ a_ w_ h_ => panic_put h_) (Or.inl ⟨by rfl, ?_⟩) hHeld ?_ ?_
    rotate_left
    · rintro w' ⟨h0_, h1_, h2_, h3_, h4_, h5_, h6_, h7_⟩
      go_simp
      with_reducible rfl
    rotate_left
    · simp only [ps_]
      rfl
    refine one_ (i := 13) (N := some 3) #[true, true, true, true, true, true, true, true, true, true, true, true, true, true, false] rfl rfl (by kernel_rfl) (by decide) (fun K hK => ?_)
    rw [if_pos (by rfl)]
    go_simp
    refine hK.out _ _ (⟨AL2 hHeld.1, AL2 hHeld.2.1, AL2 hHeld.2.2.1, AL2 hHeld.2.2.2.1, AL2 hHeld.2.2.2.2.1, AL2 hHeld.2.2.2.2.2.1, AL2 hHeld.2.2.2.2.2.2.1, AL2 hHeld.2.2.2.2.2.2.2⟩) (fun hHeld => ?_)
    clear hK K
    refine last_ (i := 14) (N := none) #[true, true, true, true, true, true, true, true, true, true, true, true, true, true, true] rfl rfl (by kernel_rfl) (by decide) (fun K hK => ?_)
    rw [if_pos (by rfl)]
    refine wp_store_row 41 (.tmp 3) (.tmp 32) rfl wr.heap.size (by rfl) 41 #[.slice none 0 0, .int .i64 0, .int .i64 0, .int .i64 0, .int .i64 0] (bC (blkOf V.F fr) (.slice Ai (blkOf V.F fr).f0.length cI)) (by rfl) (blk_new (wr.drewN (nq + 1)) _) I41.out (by rfl) (by simp [bC, Value.oneCell']) ?_
    have HB3 : Aside0 ((((wr.drewN (nq + 1)).alloc (.cells #[.slice none 0 0, .int .i64 0, .int .i64 0, .int .i64 0, .int .i64 0] 41)).setRow wr.heap.size (bC (blkOf V.F fr) (.slice Ai (blkOf V.F fr).f0.length cI))).heap[wr.heap.size]? = some (.cells (bC (blkOf V.F fr) (.slice Ai (blkOf V.F fr).f0.length cI)) 41 (0, 0))) := ⟨setRow_heap _ _ _ _ _ _ (blk_new (wr.drewN (nq + 1)) _)⟩
    have HT3 : Aside0 (Tr nil_ wr (((wr.drewN (nq + 1)).alloc (.cells #[.slice none 0 0, .int .i64 0, .int .i64 0, .int .i64 0, .int .i64 0] 41)).setRow wr.heap.size (bC (blkOf V.F fr) (.slice Ai (blkOf V.F fr).f0.length cI)))) := ⟨(((Tr.refl nil_ wr).drewN (nq + 1)).alloc _).then_ (S2 := one wr.heap.size) ⟨rfl, rfl, rfl, by rw [setRow_size]; exact Nat.le_refl _, fun q _ hq => setRow_other _ _ q _ hq⟩ (fun q hq => .inr (Nat.le_of_eq hq.symm))⟩
    generalize (((wr.drewN (nq + 1)).alloc (.cells #[.slice none 0 0, .int .i64 0, .int .i64 0, .int .i64 0, .int .i64 0] 41)).setRow wr.heap.size (bC (blkOf V.F fr) (.slice Ai (blkOf V.F fr).f0.length cI))) = w3 at HB3 HT3 ⊢
    refine hK.out _ _ ?_
    clear hK K
    refine done_ (by kernel_rfl) ?_
    have HM3 : Aside0 (w3.heap[V.mb]? = some (.cells (mC V.E ⟨.slice (some ⟨ab, 0, none⟩) (rest.length + 1) cap, 0, 0, tv, G.st, G.rd⟩) 54 (0, 0))) := ⟨HT3.out.blk HSN.out.mb (fun h => h)⟩
    have HI3 : Aside0 (Inv V w3 ((cb2, rb2, fr) :: rest) G) := ⟨by obtain ⟨cv_, tv_, h_⟩ := HI.out; exact ⟨cv_, tv_, h_.tr_ HT3.out⟩⟩
    have cbx3 : w3.cell? ⟨bx, 0, none⟩ = some (.pointer (some ⟨V.mb, 0, none⟩)) := HT3.out.cell cbx (fun h => h)
    have HSMB := Aside0.mk HSN.out.mb
    have HINS := Aside0.mk HSN.out.ins
    have HINC := Aside0.mk HSN.out.insc
    clear cbx c4 cab k0 k2 k3 f3 b0 b1 b2 b3 b4 hHeld q0 HSN HI
    by_cases hst : V.E.fuel ≤ (G.st : Int)
    · have HRS : Aside0 (runT V.F V.GS V.inp V.E.fuel = .fin 5 0 G) := ⟨by rw [HRUN.out]; show runS _ _ _ _ gk (stepC _ _ _ _ fr _ G) = _; unfold stepC; rw [if_pos hst]; exact runS_fin _ _ _ _ _ _ _ _⟩
      go_wp2_with (go_at_call 25; (with_reducible refine (step_stop V.E _ _ _ HM3.out hst (by show G.st < 1000000000; have := HK.out; omega)).mono ?_); rintro e w4 ⟨rfl, ht⟩; have HT4 := Aside0.mk ht; clear ht)
      exact panic_end HX.out rfl (by obtain ⟨cv_, tv_, h_⟩ := HI3.out; exact ⟨cv_, tv_, h_.tr_ HT4.out⟩) HRS.out
    · cases gk with
      | zero => exact absurd HK.out (by omega)
      | succ q1 =>
        have hlt : (G.st : Int) < V.E.fuel := by omega
        have HLT := Aside0.mk hlt
        have hmbl := blk_lt HSMB.out
        go_wp2_with (go_at_call 25; (with_reducible refine (step_go V.E _ _ _ HM3.out hlt (by show G.st < 1000000000; have := HK.out; omega)).mono ?_); rintro e w4 ⟨rfl, ht⟩; have HT4 := Aside0.mk ht; have HI4 := Aside0.mk (HI3.out.tick HM3.out ht); have HB4 := Aside0.mk (ht.2.blk HB3.out (Nat.ne_of_gt hmbl)); have cbx4 := Inv.bx_ HX.out HI4.out; have k43 : w4.cell? ⟨cb2, 3, none⟩ = some (.int .i64 (fr.ins : Int)) := (blk_cell HI4.out.at_c.1 3).trans rfl; have b40 : w4.cell? ⟨wr.heap.size, 0, none⟩ = some (.slice Ai (blkOf V.F fr).f0.length cI) := (blk_cell HB4.out 0).trans rfl; clear ht)
        cases hx : (blkOf V.F fr).f0[fr.ins]? with
        | some x =>
          have hil : fr.ins < (blkOf V.F fr).f0.length := (List.getElem?_eq_some_iff.1 hx).1
          have HXI := Aside0.mk hx
          have HIL : Aside0 (fr.ins + 1 ≤ (blkOf V.F fr).f0.length) := ⟨hil⟩
          clear hx
          obtain ⟨Ax, A7, c7, hAx, x0, x1, x2, x3, x4, x5, x6, x7, hl7, hC7⟩ := at_T44 HINS.out (fr.ins : Int) (by omega) (by omega)
          have hrx : rd_T44 (blkOf V.F fr).f0 (fr.ins : Int) = x := by
            show (blkOf V.F fr).f0.getD ((fr.ins : Int)).toNat z44 = x
            rw [Int.toNat_natCast, List.getD_eq_getElem?_getD, HXI.out]
            rfl
          rw [hrx] at x0 x1 x2 x3 x4 x5 x6 x7 hl7 hC7
          rw [Int.toNat_natCast] at x0 x1 x2 x3 x4 x5 x6 x7
          subst hAx
          have HC7 := Aside0.mk hC7
          have HL7 := Aside0.mk hl7
          have HX0 := Aside0.mk x0
          clear hrx hC7 hl7
          have hbl_ := HI4.out.at_c.2.2
          replace x0 := pw_cell_below hbl_ x0
          replace x1 := pw_cell_below hbl_ x1
          replace x2 := pw_cell_below hbl_ x2
          replace x3 := pw_cell_below hbl_ x3
          replace x4 := pw_cell_below hbl_ x4
          replace x5 := pw_cell_below hbl_ x5
          replace x6 := pw_cell_below hbl_ x6
          replace x7 := pw_cell_below hbl_ x7
          clear hbl_
          go_quiet (fail)
          go_wp2
          refine start_ (n := 10) (S := fun w_ => w_.cell? ⟨wr.heap.size, 0, none⟩ = some (.slice (some Ax) (blkOf V.F fr).f0.length cI) ∧ w_.cell? ⟨cb2, 3, none⟩ = some (.int .i64 (fr.ins : Int)) ∧ w_.cell? (Ax.add (fr.ins * 8)) = some (.int .i64 x.f0) ∧ w_.cell? ⟨(Ax.add (fr.ins * 8)).block, (Ax.add (fr.ins * 8)).off + 1, none⟩ = some (.int .i64 x.f1) ∧ w_.cell? ⟨(Ax.add (fr.ins * 8)).block, (Ax.add (fr.ins * 8)).off + 2, none⟩ = some (.int .i64 x.f2) ∧ w_.cell? ⟨(Ax.add (fr.ins * 8)).block, (Ax.add (fr.ins * 8)).off + 3, none⟩ = some (.int .i64 x.f3) ∧ w_.cell? ⟨(Ax.add (fr.ins * 8)).block, (Ax.add (fr.ins * 8)).off + 4, none⟩ = some (.int .i64 x.f4) ∧ w_.cell? ⟨(Ax.add (fr.ins * 8)).block, (Ax.add (fr.ins * 8)).off + 5, none⟩ = some (.int .i32 x.f5) ∧ w_.cell? ⟨(Ax.add (fr.ins * 8)).block, (Ax.add (fr.ins * 8)).off + 6, none⟩ = some (.string x.f6) ∧ w_.cell? ⟨(Ax.add (fr.ins * 8)).block, (Ax.add (fr.ins * 8)).off + 7, none⟩ = some (.slice A7 x.f7.length c7)) (ds := [9]) #[false, false, false, false, false, false, false, false, false, false] (by kernel_rfl) rfl rfl ⟨b40, k43, x0, x1, x2, x3, x4, x5, x6, x7⟩ (fun hHeld => ?_)
          refine pure_ (i := 0) (N := some 43) (v := ?_) (a' := ?_) #[true, false, false, false, false, false, false, false, false, false] rfl rfl (by kernel_rfl) (fun c_ a_ w_ h_ => panic_put h_) (Or.inl ⟨by rfl, ?_⟩) ?_ ?_
          rotate_left
          · intro w'
            go_simp
            with_reducible rfl
          rotate_left
          · simp only [ps_]
            rfl
          refine take_ (i := 1) (N := some 44) (v := ?_) (a' := ?_) #[true, true, false, false, false, false, false, false, false, false] rfl rfl (by kernel_rfl) (fun c_ a_ w_ h_ => panic_put h_) (Or.inl ⟨by rfl, ?_⟩) hHeld ?_ ?_
          rotate_left
          · rintro w' ⟨h0_, h1_, h2_, h3_, h4_, h5_, h6_, h7_, h8_, h9_⟩
            go_simp
            with_reducible rfl
          rotate_left
          · simp only [ps_]
            rfl
          refine pure_ (i := 2) (N := some 45) (v := ?_) (a' := ?_) #[true, true, true, false, false, false, false, false, false, false] rfl rfl (by kernel_rfl) (fun c_ a_ w_ h_ => panic_put h_) (Or.inl ⟨by rfl, ?_⟩) ?_ ?_
          rotate_left
          · intro w'
            go_simp
            with_reducible rfl
          rotate_left
          · simp only [ps_]
            rfl
          refine pure_ (i := 3) (N := some 46) (v := ?_) (a' := ?_) #[true, true, true, true, false, false, false, false, false, false] rfl rfl (by kernel_rfl) (fun c_ a_ w_ h_ => panic_put h_) (Or.inl ⟨by rfl, ?_⟩) ?_ ?_
          rotate_left
          · intro w'
            go_simp
            with_reducible rfl
          rotate_left
          · simp only [ps_]
            rfl
          refine pure_ (i := 4) (N := some 47) (v := ?_) (a' := ?_) #[true, true, true, true, true, false, false, false, false, false] rfl rfl (by kernel_rfl) (fun c_ a_ w_ h_ => panic_put h_) (Or.inl ⟨by rfl, ?_⟩) ?_ ?_
          rotate_left
          · intro w'
            go_simp
            with_reducible rfl
          rotate_left
          · simp only [ps_]
            rfl
          refine take_ (i := 5) (N := some 48) (v := ?_) (a' := ?_) #[true, true, true, true, true, true, false, false, false, false] rfl rfl (by kernel_rfl) (fun c_ a_ w_ h_ => panic_put h_) (Or.inl ⟨by rfl, ?_⟩) hHeld ?_ ?_
          rotate_left
          · rintro w' ⟨h0_, h1_, h2_, h3_, h4_, h5_, h6_, h7_, h8_, h9_⟩
            go_simp
            with_reducible rfl
          rotate_left
          · simp only [ps_]
            rfl
          refine pure_ (i := 6) (N := some 49) (v := ?_) (a' := ?_) #[true, true, true, true, true, true, true, false, false, false] rfl rfl (by kernel_rfl) (fun c_ a_ w_ h_ => panic_put h_) (Or.inl ⟨by rfl, ?_⟩) ?_ ?_
          rotate_left
          · intro w'
            go_simp
            with_reducible rfl
          rotate_left
          · simp only [ps_]
            rfl
          refine take_ (i := 7) (N := some 50) (v := ?_) (a' := ?_) #[true, true, true, true, true, true, true, true, false, false] rfl rfl (by kernel_rfl) (fun c_ a_ w_ h_ => panic_put h_) (Or.inl ⟨by rfl, ?_⟩) hHeld ?_ ?_
          rotate_left
          · rintro w' ⟨h0_, h1_, h2_, h3_, h4_, h5_, h6_, h7_, h8_, h9_⟩
            go_simp
            with_reducible rfl
          rotate_left
          · simp only [ps_]
            rfl
          refine one_ (i := 8) (N := some 4) #[true, true, true, true, true, true, true, true, true, false] rfl rfl (by kernel_rfl) (by decide) (fun K hK => ?_)
          rw [if_pos (by rfl)]
          go_simp
          refine hK.out _ _ (⟨AL2 hHeld.1, AL2 hHeld.2.1, AL2 hHeld.2.2.1, AL2 hHeld.2.2.2.1, AL2 hHeld.2.2.2.2.1, AL2 hHeld.2.2.2.2.2.1, AL2 hHeld.2.2.2.2.2.2.1, AL2 hHeld.2.2.2.2.2.2.2.1, AL2 hHeld.2.2.2.2.2.2.2.2.1, AL2 hHeld.2.2.2.2.2.2.2.2.2⟩) (fun hHeld => ?_)
          clear hK K
          refine last_ (i := 9) (N := none) #[true, true, true, true, true, true, true, true, true, true] rfl rfl (by kernel_rfl) (by decide) (fun K hK => ?_)
          rw [if_pos (by rfl)]
          refine wp_store_row 44 (.tmp 4) (.tmp 50) rfl w4.heap.size (by rfl) 44 #[.int .i64 0, .int .i64 0, .int .i64 0, .int .i64 0, .int .i64 0, .int .i32 0, .string ⟨#[]⟩, .slice none 0 0] (xC x (.slice A7 x.f7.length c7)) (by rfl) (blk_new (w4.drewN (nq + 1)) _) I44.out (by rfl) (by simp [xC, Value.oneCell']) ?_
          have HB5 : Aside0 ((((w4.drewN (nq + 1)).alloc (.cells #[.int .i64 0, .int .i64 0, .int .i64 0, .int .i64 0, .int .i64 0, .int .i32 0, .string ⟨#[]⟩, .slice none 0 0] 44)).setRow w4.heap.size (xC x (.slice A7 x.f7.length c7))).heap[w4.heap.size]? = some (.cells (xC x (.slice A7 x.f7.length c7)) 44 (0, 0))) := ⟨setRow_heap _ _ _ _ _ _ (blk_new (w4.drewN (nq + 1)) _)⟩
          have HT5 : Aside0 (Tr nil_ w4 (((w4.drewN (nq + 1)).alloc (.cells #[.int .i64 0, .int .i64 0, .int .i64 0, .int .i64 0, .int .i64 0, .int .i32 0, .string ⟨#[]⟩, .slice none 0 0] 44)).setRow w4.heap.size (xC x (.slice A7 x.f7.length c7)))) := ⟨(((Tr.refl nil_ w4).drewN (nq + 1)).alloc _).then_ (S2 := one w4.heap.size) ⟨rfl, rfl, rfl, by rw [setRow_size]; exact Nat.le_refl _, fun q _ hq => setRow_other _ _ q _ hq⟩ (fun q hq => .inr (Nat.le_of_eq hq.symm))⟩
          generalize (((w4.drewN (nq + 1)).alloc (.cells #[.int .i64 0, .int .i64 0, .int .i64 0, .int .i64 0, .int .i64 0, .int .i32 0, .string ⟨#[]⟩, .slice none 0 0] 44)).setRow w4.heap.size (xC x (.slice A7 x.f7.length c7))) = w5 at HB5 HT5 ⊢
          refine hK.out _ _ ?_
          clear hK K
          refine done_ (by kernel_rfl) ?_
          have HI5 : Aside0 (Inv V w5 ((cb2, rb2, fr) :: rest) G.tick) := ⟨HI4.out.tr_ HT5.out⟩
          have cbx5 := Inv.bx_ HX.out HI5.out
          have k53 : w5.cell? ⟨cb2, 3, none⟩ = some (.int .i64 (fr.ins : Int)) := (blk_cell HI5.out.at_c.1 3).trans rfl
          have f53 := blk_frozen HI5.out.at_c.1 3
          have e0 : w5.cell? ⟨w4.heap.size, 0, none⟩ = some (.int .i64 x.f0) := (blk_cell HB5.out 0).trans rfl
          have e1 : w5.cell? ⟨w4.heap.size, 1, none⟩ = some (.int .i64 x.f1) := (blk_cell HB5.out 1).trans rfl
          have e2 : w5.cell? ⟨w4.heap.size, 2, none⟩ = some (.int .i64 x.f2) := (blk_cell HB5.out 2).trans rfl
          have e3 : w5.cell? ⟨w4.heap.size, 3, none⟩ = some (.int .i64 x.f3) := (blk_cell HB5.out 3).trans rfl
          have e4 : w5.cell? ⟨w4.heap.size, 4, none⟩ = some (.int .i64 x.f4) := (blk_cell HB5.out 4).trans rfl
          have e5 : w5.cell? ⟨w4.heap.size, 5, none⟩ = some (.int .i32 x.f5) := (blk_cell HB5.out 5).trans rfl
          have e6 : w5.cell? ⟨w4.heap.size, 6, none⟩ = some (.string x.f6) := (blk_cell HB5.out 6).trans rfl
          have e7 : w5.cell? ⟨w4.heap.size, 7, none⟩ = some (.slice A7 x.f7.length c7) := (blk_cell HB5.out 7).trans rfl
          have hb5c : bx ≠ cb2 := fun h_ => by have h1_ := HI5.out.at_c.1; have h2_ := Inv.bxh HX.out HI5.out; rw [h_, h1_] at h2_; injection h2_ with h3_; injection h3_ with _ h4_; exact absurd h4_ (by decide)
          have hc5w : w4.heap.size ≠ cb2 := Nat.ne_of_gt (blk_lt HI4.out.at_c.1)
          have hfew : fr.ins ≤ 1000000000 := by have h_ := (HF.out.okBlk HV.out.mid).few; omega
          have HOX := Aside0.mk ((HF.out.okBlk HV.out.mid).ins x (List.mem_of_getElem? HXI.out))
          have HTRL : Aside0 (G.tr.length ≤ 1000000) := ⟨by have h1_ := HTR.out; have h2_ := HK.out; omega⟩
          clear cbx3 cbx4 k43 b40 x0 x1 x2 x3 x4 x5 x6 x7 hHeld
          cases hs : stepC V.F V.GS V.inp V.E.fuel fr (rest.map (·.2.2)) G with
          | go st2 G2 =>
            have HS2 := Aside0.mk hs
            clear hs
            go_wp2_with (go_at_call 26; (with_reducible refine (ins_nextL HV.out (on_store HI5.out) HF.out HIL.out HGl.out x HXI.out HOX.out hrl HTRL.out A7 c7 HL7.out (Kd.C_below HC7.out (on_store HI5.out).at_c.2.2) hlt HS2.out).mono ?_); rintro e w6 ⟨rfl, ks2, hks, hI6⟩; have HKS := Aside0.mk hks; have HI6 := Aside0.mk hI6; clear hks hI6)
            have hst2 := step_ok (F := V.F) (GS := V.GS) (inp := V.inp) (fuel := V.E.fuel) (st := fr :: rest.map (fun k_ : Kf => k_.2.2)) HV.out.mid HV.out.w32 HS'.out HGl.out (by have := HL.out; simpa using this) HS2.out
            have hss := stepC_st HS2.out
            go_roundg q1
            case measure => omega
            case rel => exact ⟨ks2, G2, HI6, ⟨by rw [HKS.out]; exact hst2.1⟩, ⟨hst2.2.1⟩, ⟨fun h_ => hst2.2.2.1 (by rw [← HKS.out, h_]; rfl)⟩, ⟨by have h_ := hst2.2.2.2; rw [← HKS.out, List.length_map] at h_; exact h_⟩, ⟨by have := HK.out; omega⟩, ⟨by have := HTR.out; omega⟩, ⟨by rw [HRUN.out, HKS.out]; show runS _ _ _ _ (q1 + 1) (stepC _ _ _ _ fr _ G) = _; rw [show stepC V.F V.GS V.inp V.E.fuel fr (rest.map (·.2.2)) G = .go st2 G2 from HS2.out]⟩⟩
          | fin c v G2 =>
            have HS2 := Aside0.mk hs
            clear hs
            have HRS : Aside0 (runT V.F V.GS V.inp V.E.fuel = .fin c v G2) := ⟨by rw [HRUN.out]; show runS _ _ _ _ (q1 + 1) (stepC _ _ _ _ fr _ G) = _; rw [show stepC V.F V.GS V.inp V.E.fuel fr (rest.map (·.2.2)) G = .fin c v G2 from HS2.out]; exact runS_fin _ _ _ _ _ _ _ _⟩
            go_wp2_with (go_at_call 26; (with_reducible refine (ins_finL HV.out (on_store HI5.out) HF.out HIL.out HGl.out x HXI.out HOX.out hrl HTRL.out A7 c7 HL7.out (Kd.C_below HC7.out (on_store HI5.out).at_c.2.2) hlt HS2.out).mono ?_); rintro e w6 ⟨rfl, hv0, ks2, hI6⟩; have HV0 := Aside0.mk hv0; have HI6 := Aside0.mk hI6; clear hv0 hI6)
            exact panic_end HX.out rfl (by obtain ⟨cv_, tv_, h_⟩ := HI6.out; rw [HV0.out]; exact ⟨cv_, tv_, h_⟩) HRS.out
        | none =>
          have hil : (blkOf V.F fr).f0.length ≤ fr.ins := List.getElem?_eq_none_iff.1 hx
          have HXI := Aside0.mk hx
          have b41 : w4.cell? ⟨wr.heap.size, 1, none⟩ = some (.int .i64 (blkOf V.F fr).f1) := (blk_cell HB4.out 1).trans rfl
          have b42 : w4.cell? ⟨wr.heap.size, 2, none⟩ = some (.int .i64 (blkOf V.F fr).f2) := (blk_cell HB4.out 2).trans rfl
          have b43 : w4.cell? ⟨wr.heap.size, 3, none⟩ = some (.int .i64 (blkOf V.F fr).f3) := (blk_cell HB4.out 3).trans rfl
          have b44 : w4.cell? ⟨wr.heap.size, 4, none⟩ = some (.int .i64 (blkOf V.F fr).f4) := (blk_cell HB4.out 4).trans rfl
          clear hx cbx3
          go_quiet (fail)
          cases hs : stepC V.F V.GS V.inp V.E.fuel fr (rest.map (·.2.2)) G with
          | go st2 G2 =>
            have HS2 := Aside0.mk hs
            clear hs
            go_wp2_with (go_at_call 27; (with_reducible refine (end_nextL HV.out (HI4.out.tr_ ((Tr.refl _ _).drewN _)) HF.out HS'.out HXI.out hrl _ _ _ hlt HS2.out).mono ?_); rintro e w6 ⟨rfl, ks2, hks, hI6⟩; have HKS := Aside0.mk hks; have HI6 := Aside0.mk hI6; clear hks hI6)
            have hst2 := step_ok (F := V.F) (GS := V.GS) (inp := V.inp) (fuel := V.E.fuel) (st := fr :: rest.map (fun k_ : Kf => k_.2.2)) HV.out.mid HV.out.w32 HS'.out HGl.out (by have := HL.out; simpa using this) HS2.out
            have hss := stepC_st HS2.out
            go_roundg q1
            case measure => omega
            case rel => exact ⟨ks2, G2, HI6, ⟨by rw [HKS.out]; exact hst2.1⟩, ⟨hst2.2.1⟩, ⟨fun h_ => hst2.2.2.1 (by rw [← HKS.out, h_]; rfl)⟩, ⟨by have h_ := hst2.2.2.2; rw [← HKS.out, List.length_map] at h_; exact h_⟩, ⟨by have := HK.out; omega⟩, ⟨by have := HTR.out; omega⟩, ⟨by rw [HRUN.out, HKS.out]; show runS _ _ _ _ (q1 + 1) (stepC _ _ _ _ fr _ G) = _; rw [show stepC V.F V.GS V.inp V.E.fuel fr (rest.map (·.2.2)) G = .go st2 G2 from HS2.out]⟩⟩
          | fin c v G2 =>
            have HS2 := Aside0.mk hs
            clear hs
            have HRS : Aside0 (runT V.F V.GS V.inp V.E.fuel = .fin c v G2) := ⟨by rw [HRUN.out]; show runS _ _ _ _ (q1 + 1) (stepC _ _ _ _ fr _ G) = _; rw [show stepC V.F V.GS V.inp V.E.fuel fr (rest.map (·.2.2)) G = .fin c v G2 from HS2.out]; exact runS_fin _ _ _ _ _ _ _ _⟩
            go_wp2_with (go_at_call 27; (with_reducible refine (end_finL HV.out (HI4.out.tr_ ((Tr.refl _ _).drewN _)) HF.out HS'.out HXI.out hrl _ _ _ hlt HS2.out).mono ?_); rintro e w6 ⟨rfl, hc1, hI6⟩; have HC1 := Aside0.mk hc1; have HI6 := Aside0.mk hI6; have cbx6 : w6.cell? ⟨bx, 0, none⟩ = some (.pointer (some ⟨V.mb, 0, none⟩)) := (blk_cell (hI6.box HX.out) 0).trans rfl; have m56 := hI6.m5.1; have f56 := hI6.m5.2; clear hc1 hI6)
            exact ret_end (.inr rfl) rfl (HI6.out.ends (fun m_ hm_ => ⟨blk_put hm_ 5 _ (by simp [mC]), (Tr.refl _ _).set (S := one V.mb) (.inl (one_self V.mb)) _⟩)) (by rw [HRS.out, HC1.out])
end Go.Proofs.Ytabkinlpbefjgaa.L

namespace Go.Proofs.Ytabkinlpbefjgaa.L
open Go.RowKit Go.Proofs.Ytabkinlpbefjgaa.X Go.Proofs.YtabkinlpbefjgaaW.PrintWords Go.Proofs.YtabkinlpbefjgaaW.PrintLast Go.Proofs.YtabkinlpbefjgaaW.PrintMore
attribute [local go_sem] max2_int min2_int max_two min_two max_three min_three max_four min_four   -- for this text's walks alone
set_option linter.unusedVariables false
set_option linter.unusedSimpArgs false
open Go.Proofs.Ytabkinlpbefjgaa.Pure
def encV (v : Value) : Option (DataW Value × List MemPlace) := some (.held v, [])
theorem key9 : Maps.Keyed Try.prog 9 := Maps.string_keyed Try.underlying9
def Holds (W : World) (b n : Nat) (at_ : ByteArray → Value → Prop) : Prop := ∃ D : DataW Value, W.ownsMap Try.prog 9 encV b n D ∧ Maps.IsMap D ∧ ∀ s v, at_ s v → ∀ z, D.atKey (.string s.data.toList) z = .held v
theorem Holds.keep {W W1 : World} {b n : Nat} {p : ByteArray → Value → Prop} (h : Holds W b n p) (hb : W1.heap[b]? = W.heap[b]?) : Holds W1 b n p := by
  obtain ⟨D, ⟨es, clock, h1, h2⟩, h3⟩ := h
  exact ⟨D, ⟨es, clock, hb.trans h1, h2⟩, h3⟩
theorem Holds.lt {W : World} {b n : Nat} {p : ByteArray → Value → Prop} (h : Holds W b n p) : b < W.heap.size := by
  obtain ⟨D, h1, _⟩ := h
  exact h1.lt
theorem Holds.mapAt {W : World} {b n : Nat} {p : ByteArray → Value → Prop} (h : Holds W b n p) {t e : TypeId} (ht : Try.prog.underlying t = some (.map 9 e)) {z : Value} (hz : ∀ W', (zeroValue e).run Try.prog W' = .ok z W') {s : ByteArray} {v : Value} (hp : p s v) (hs : s.size ≤ maxLen) : MapAt t b W s v := by
  intro W' hb
  obtain ⟨D, ho, _, hat⟩ := h.keep hb
  obtain ⟨v2, ps, hrun, hv⟩ := ho.lookup key9 ht (hz W') (zd := .held z) (zp := []) rfl (WideMaps.keyOf_string_mk Try.underlying9 hs)
  rw [hat s v hp] at hv
  simp only [encV, Option.some.injEq, Prod.mk.injEq, DataW.held.injEq] at hv
  rw [hrun, hv.1]
theorem Holds.made (W : World) : Holds (W.alloc (.map #[] 0)) W.heap.size 0 (fun _ _ => False) := ⟨_, World.ownsMap_made W _ _ _, Maps.isMap_empty, fun _ _ h => h.elim⟩
section
variable {ops : Array Oper} {rest : List Oper} {o : Oper} {a : Act} {W : World} {Q : Exit → Act → World → Prop}
theorem op_make32 {K : Act → World → Prop} (x y : Operand) (ho : o.op = .makeSlice 26 x y) (n : Nat) (hx : a.eval x = .int .i64 (n : Int)) (hy : a.eval y = .int .i64 (n : Int)) (hn : n ≤ 4096)
    (h : ∀ w1, w1.heap[W.heap.size]? = some (.cells (row32 (List.replicate n 0)) 21 (0, 0)) → Tr nil_ W w1 → K (a.put o.dst (.slice (some ⟨W.heap.size, 0, none⟩) n n)) w1) : o.wp Try.prog a W K Q := by
  obtain ⟨i, hi, hz, hs, hby⟩ : ∃ i, Try.prog.info? 21 = some i ∧ i.zero = some (.int .i32 0) ∧ i.size = 1 ∧ i.bytes = 4 := by
    obtain ⟨i, hi, h2⟩ := Option.map_eq_some_iff.1 info21
    simp only [Prod.mk.injEq] at h2
    exact ⟨i, hi, h2⟩
  have hrun := run_make (P := Try.prog) W 26 21 i (.int .i32 0) Try.underlying26 hi hz .i64 .i64 (n : Int) (n : Int) (by omega) (by omega) (by rw [hby]; omega) (by omega)
  have hc : madeCells (Value.cells (.int .i32 0)) (((n : Int)).toNat * i.size) = row32 (List.replicate n 0) := by
    rw [hs, Nat.mul_one, Int.toNat_natCast]
    apply Array.ext
    · simp [size_madeCells, row32_size]
    · intro k h1 h2
      simp [row32, madeCells, Value.cells, Nat.mod_one]
  rw [hc] at hrun
  unfold Oper.wp
  simp only [execOp, ho, hx, hy, Sem.run_bind, Sem.run_pure, Result.andThen_ok, hrun]
  try rw [Int.toNat_natCast]
  exact (h _ (blk_new _ _) ((Tr.refl _ _).alloc _))
theorem op_mapput {K : Act → World → Prop} (m x v : Operand) (t e : TypeId) (hop : o.op = Op.mapUpdate t m x v) (ht : Try.prog.underlying t = some (.map 9 e)) (b n : Nat) (p : ByteArray → Value → Prop) (h : Holds W b n p) (hn : n < 1000) (hm : a.eval m = .map (some b)) (s : ByteArray) (val : Value) (hx : a.eval x = .string s) (hv : a.eval v = val) (hs : s.size ≤ maxLen)
    (hK : ∀ w1, Holds w1 b (n + 1) (fun s' v' => if s' = s then v' = val else p s' v') → Tr (one b) W w1 → K (a.put o.dst undef) w1) : o.wp Try.prog a W K Q := by
  obtain ⟨D, ho, hD, hat⟩ := h
  obtain ⟨w1, hrun, ho1, hg⟩ := ho.update key9 ht (by unfold maxLen; omega) (WideMaps.keyOf_string_mk Try.underlying9 hs) (show encV val = some (.held val, []) from rfl)
  unfold Oper.wp
  simp only [execOp, hop, hm, hx, hv, Sem.run_bind, Sem.run_pure, Result.andThen_ok, hrun]
  refine (hK w1 ⟨_, ho1, hD.put _ _, fun s' v' hsv z => ?_⟩ ⟨hg.os, hg.tape, hg.output, hg.size, fun k hk hne => hg.block k hk (fun e => hne (by injection e))⟩)
  have hsv : if s' = s then v' = val else p s' v' := hsv
  by_cases e : s' = s
  · rw [if_pos e] at hsv
    rw [e, hsv]
    exact Maps.atKey_put_same hD (by simp [WideAt.IsKeyLit]) _ _
  · rw [if_neg e] at hsv
    rw [Maps.atKey_put_other (by
      intro h9
      injection h9 with h9
      exact e (by cases s; cases s'; congr 1; exact Array.toList_inj.1 h9))]
    exact hat s' v' hsv z
theorem wp_mapput (hgd : o.guard = none) (m x v : Operand) (t e : TypeId) (hop : o.op = Op.mapUpdate t m x v) (ht : Try.prog.underlying t = some (.map 9 e)) (b n : Nat) (p : ByteArray → Value → Prop) (h : Holds W b n p) (hn : n < 1000) (hm : a.eval m = .map (some b)) (s : ByteArray) (val : Value) (hx : a.eval x = .string s) (hv : a.eval v = val) (hs : s.size ≤ maxLen)
    (hK : ∀ w1, Holds w1 b (n + 1) (fun s' v' => if s' = s then v' = val else p s' v') → Tr (one b) W w1 → wpList Try.prog ops Q rest (a.put o.dst undef) w1) : wpList Try.prog ops Q (o :: rest) a W := by
  obtain ⟨D, ho, hD, hat⟩ := h
  obtain ⟨w1, hrun, ho1, hg⟩ := ho.update key9 ht (by unfold maxLen; omega) (WideMaps.keyOf_string_mk Try.underlying9 hs) (show encV val = some (.held val, []) from rfl)
  refine wpList_plain hgd fun K' hK' => ?_
  unfold Oper.wp
  simp only [execOp, hop, hm, hx, hv, Sem.run_bind, Sem.run_pure, Result.andThen_ok, hrun]
  refine hK' _ _ (hK w1 ⟨_, ho1, hD.put _ _, fun s' v' hsv z => ?_⟩ ⟨hg.os, hg.tape, hg.output, hg.size, fun k hk hne => hg.block k hk (fun e => hne (by injection e))⟩)
  have hsv : if s' = s then v' = val else p s' v' := hsv
  by_cases e : s' = s
  · rw [if_pos e] at hsv
    rw [e, hsv]
    exact Maps.atKey_put_same hD (by simp [WideAt.IsKeyLit]) _ _
  · rw [if_neg e] at hsv
    rw [Maps.atKey_put_other (by
      intro h9
      injection h9 with h9
      exact e (by cases s; cases s'; congr 1; exact Array.toList_inj.1 h9))]
    exact hat s' v' hsv z
end
end Go.Proofs.Ytabkinlpbefjgaa.L

