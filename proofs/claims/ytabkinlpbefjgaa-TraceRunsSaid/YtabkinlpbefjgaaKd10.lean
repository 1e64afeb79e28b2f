/- Texts of this seat that a claim bears, put together by this session's own program shake.py: TrJ, TrK. -/
import Derived.Test.YtabkinlpbefjgaaKps
import Derived.Test.YtabkinlpbefjgaaKd9
namespace Go.Proofs.Ytabkinlpbefjgaa.L
open Go.RowKit Go.Proofs.Ytabkinlpbefjgaa.X Go.Proofs.YtabkinlpbefjgaaW.PrintWords Go.Proofs.YtabkinlpbefjgaaW.PrintLast Go.Proofs.YtabkinlpbefjgaaW.PrintMore
attribute [local go_sem] max2_int min2_int max_two min_two max_three min_three max_four min_four   -- for this text's walks alone
set_option linter.unusedVariables false
set_option linter.unusedSimpArgs false
section
variable {P : Program} {Q : Exit → Act → World → Prop}
theorem goesP_ {ops : Array Oper} {oi : Oper} {N : Option Tmp} {a : Act} {w : World} {K : Act → World → Prop} {f : FuncId} {fn : Func} {xs : Array Operand} {ts : Array TypeId} (hf : P.funcs[f]? = some fn) (hname : (fn.name == "runtime.NumGoroutine") = false) (hb : fn.body.isSome = true) (args : Array Value)
    (hw : Region.wanted oi (yielded ops a.tmps) = true) (hN : oi.dst = N) (hop : oi.op = .call { callee := .value (.func f), args := xs, argTypes := ts }) (hargs : xs.map a.eval = args)
    (h : Calls P f args w fun e w' => ∃ c, e = .panicked c ∧ Q (.panic c) a w') : if Region.wanted oi (yielded ops a.tmps) = true then Oper.wp P oi a w K Q else K (a.put N undef) w := by
  rw [if_pos hw]
  have he := enters_ hf hname hb args w
  have hrun : (execOp a.eval oi).run P w = .ok (.enter f args) w := by
    unfold execOp
    simp [hop, resolve, Deferred.ofValue, invoke, Act.eval, hargs, he]
  unfold Oper.wp
  rw [hrun, Oper.upon_enter]
  refine h.mono fun e w'' hh => ?_
  obtain ⟨v, rfl, hk⟩ := hh
  exact hk
end
set_option maxHeartbeats 4000000 in
set_option maxRecDepth 100000 in
theorem ins_load (fp : Addr) (rb : Nat) (regs : List Int) (n : Nat) (hn : regs.length = n) (blk ins d : Int) (W : World) (mp : Value) (cb : Nat) (hc : W.heap[cb]? = some (.cells (fC fp rb n blk ins d) 70 (0, 0))) (hr : W.heap[rb]? = some (.cells (row32 regs) 21 (0, 0)))
    (hne : rb ≠ cb) (op D A B num : Int) (nm : ByteArray) (av : Value) (hav : av.oneCell' = true) (hD0 : 0 ≤ D) (hD1 : D < n) (wb j : Nat) (z : Int) (hz : W.cell? ⟨wb, j, none⟩ = some (.int .i32 z)) (hW : ∀ w1, Tr nil_ W w1 → Calls Try.prog 37 #[mp, .pointer (some ⟨cb, 0, none⟩), .agg #[.int .i64 5, .int .i64 op, .int .i64 D, .int .i64 A, .int .i64 B, .int .i32 num, .string nm, av]] w1 fun e w' => e = .returned (.pointer (some ⟨wb, j, none⟩)) ∧ Tr nil_ w1 w') :
    Calls Try.prog 26 #[mp, .pointer (some ⟨cb, 0, none⟩), .agg #[.int .i64 5, .int .i64 op, .int .i64 D, .int .i64 A, .int .i64 B, .int .i32 num, .string nm, av]] W fun e w' => e = .returned (.tuple #[]) ∧ Turned W w' rb (row32 (put32 regs D z)) 21 := by
  have cc0 : W.cell? ⟨cb, 0, none⟩ = some (.pointer (some fp)) := (blk_cell hc 0).trans rfl; have fc0 := blk_frozen hc 0; have cc1 : W.cell? ⟨cb, 1, none⟩ = some (.slice (some ⟨rb, 0, none⟩) n n) := (blk_cell hc 1).trans rfl; have fc1 := blk_frozen hc 1; have cc2 : W.cell? ⟨cb, 2, none⟩ = some (.int .i64 blk) := (blk_cell hc 2).trans rfl; have fc2 := blk_frozen hc 2; have cc3 : W.cell? ⟨cb, 3, none⟩ = some (.int .i64 ins) := (blk_cell hc 3).trans rfl; have fc3 := blk_frozen hc 3; have cc4 : W.cell? ⟨cb, 4, none⟩ = some (.int .i64 d) := (blk_cell hc 4).trans rfl; have fc4 := blk_frozen hc 4
  have hltc := blk_lt hc
  have hltr := blk_lt hr
  have HR := Aside0.mk hr
  have cd := row32_cell hr D hD0 (by omega)
  have fcd := row32_frozen hr D
  obtain ⟨y, hy⟩ : ∃ y, get32 regs D = y := ⟨_, rfl⟩
  rw [hy] at cd
  have HCD := Aside0.mk cd
  have HZ := Aside0.mk hz
  have HW := Aside0.mk hW
  clear hc hr hn hy cd fcd hz hW
  go_enter Try.func26, Try.ntmps26
  go_wp2
  have ht1 : Tr nil_ W (W.alloc (.cells #[.int .i64 5, .int .i64 op, .int .i64 D, .int .i64 A, .int .i64 B, .int .i32 num, .string nm, av] 44)) := (Tr.refl nil_ W).alloc _
  have hx1 : (W.alloc (.cells #[.int .i64 5, .int .i64 op, .int .i64 D, .int .i64 A, .int .i64 B, .int .i32 num, .string nm, av] 44)).heap[W.heap.size]? = some (.cells #[.int .i64 5, .int .i64 op, .int .i64 D, .int .i64 A, .int .i64 B, .int .i32 num, .string nm, av] 44 (0, 0)) := blk_new _ _
  generalize W.alloc (.cells #[.int .i64 5, .int .i64 op, .int .i64 D, .int .i64 A, .int .i64 B, .int .i32 num, .string nm, av] 44) = w1 at ht1 hx1 ⊢
  have ed := ht1.cell HCD.out (fun h => h)
  have ez := ht1.cell HZ.out (fun h => h)
  have hr1 := ht1.blk HR.out (fun h => h)
  have fd := row32_frozen hr1 D
  have e0 : w1.cell? ⟨W.heap.size, 0, none⟩ = some (.int .i64 5) := (blk_cell hx1 0).trans rfl
  have e1 : w1.cell? ⟨W.heap.size, 1, none⟩ = some (.int .i64 op) := (blk_cell hx1 1).trans rfl
  have e2 : w1.cell? ⟨W.heap.size, 2, none⟩ = some (.int .i64 D) := (blk_cell hx1 2).trans rfl
  have e3 : w1.cell? ⟨W.heap.size, 3, none⟩ = some (.int .i64 A) := (blk_cell hx1 3).trans rfl
  have e4 : w1.cell? ⟨W.heap.size, 4, none⟩ = some (.int .i64 B) := (blk_cell hx1 4).trans rfl
  have e5 : w1.cell? ⟨W.heap.size, 5, none⟩ = some (.int .i32 num) := (blk_cell hx1 5).trans rfl
  have e6 : w1.cell? ⟨W.heap.size, 6, none⟩ = some (.string nm) := (blk_cell hx1 6).trans rfl
  have e7 : w1.cell? ⟨W.heap.size, 7, none⟩ = some (av) := (blk_cell hx1 7).trans rfl
  clear cc0 fc0 cc1 fc1 cc2 fc2 cc3 fc3 cc4 fc4
  have HT1 := Aside0.mk ht1
  have HR1 := Aside0.mk hr1
  have FD := Aside0.mk fd
  clear ht1 hx1 hr1 fd
  refine start_ (n := 11) (S := fun w_ => w_.cell? ⟨W.heap.size, 0, none⟩ = some (.int .i64 5) ∧ w_.cell? ⟨W.heap.size, 1, none⟩ = some (.int .i64 op) ∧ w_.cell? ⟨W.heap.size, 2, none⟩ = some (.int .i64 D) ∧ w_.cell? ⟨W.heap.size, 3, none⟩ = some (.int .i64 A) ∧ w_.cell? ⟨W.heap.size, 4, none⟩ = some (.int .i64 B) ∧ w_.cell? ⟨W.heap.size, 5, none⟩ = some (.int .i32 num) ∧ w_.cell? ⟨W.heap.size, 6, none⟩ = some (.string nm) ∧ w_.cell? ⟨W.heap.size, 7, none⟩ = some (av) ∧ w_.cell? ⟨wb, j, none⟩ = some (.int .i32 z) ∧ Aside0 (Tr nil_ w1 w_)) (ds := [10]) #[false, false, false, false, false, false, false, false, false, false, false] (by kernel_rfl) rfl rfl ⟨e0, e1, e2, e3, e4, e5, e6, e7, ez, ⟨(Tr.refl _ _).drew⟩⟩ (fun hHeld => ?_)
  refine pure_ (i := 0) (N := some 82) (v := ?_) (a' := ?_) #[true, false, false, false, false, false, false, false, false, false, false] rfl rfl (by kernel_rfl) (fun _ _ _ h => h) (Or.inl ⟨by rfl, ?_⟩) ?_ ?_
  rotate_left
  · intro w'
    go_simp
    with_reducible rfl
  rotate_left
  · simp only [ps_]
    rfl
  refine pure_ (i := 1) (N := some 83) (v := ?_) (a' := ?_) #[true, true, false, false, false, false, false, false, false, false, false] rfl rfl (by kernel_rfl) (fun _ _ _ h => h) (Or.inl ⟨by rfl, ?_⟩) ?_ ?_
  rotate_left
  · intro w'
    go_simp
    with_reducible rfl
  rotate_left
  · simp only [ps_]
    rfl
  refine take_ (i := 2) (N := some 84) (v := ?_) (a' := ?_) #[true, true, true, false, false, false, false, false, false, false, false] rfl rfl (by kernel_rfl) (fun _ _ _ h => h) (Or.inl ⟨by rfl, ?_⟩) hHeld ?_ ?_
  rotate_left
  · rintro w' ⟨h0_, h1_, h2_, h3_, h4_, h5_, h6_, h7_, h8_, h9_⟩
    go_simp
    with_reducible rfl
  rotate_left
  · simp only [ps_]
    rfl
  refine pure_ (i := 3) (N := some 85) (v := ?_) (a' := ?_) #[true, true, true, true, false, false, false, false, false, false, false] rfl rfl (by kernel_rfl) (fun _ _ _ h => h) (Or.inl ⟨by rfl, ?_⟩) ?_ ?_
  rotate_left
  · intro w'
    go_simp
    with_reducible rfl
  rotate_left
  · simp only [ps_]
    rfl
  refine pure_ (i := 4) (N := some 86) (v := ?_) (a' := ?_) #[true, true, true, true, true, false, false, false, false, false, false] rfl rfl (by kernel_rfl) (fun _ _ _ h => h) (Or.inl ⟨by rfl, ?_⟩) ?_ ?_
  rotate_left
  · intro w'
    go_simp
    with_reducible rfl
  rotate_left
  · simp only [ps_]
    rfl
  refine take_ (i := 5) (N := some 87) (v := ?_) (a' := ?_) #[true, true, true, true, true, true, false, false, false, false, false] rfl rfl (by kernel_rfl) (fun _ _ _ h => h) (Or.inl ⟨by rfl, ?_⟩) hHeld ?_ ?_
  rotate_left
  · rintro w' ⟨h0_, h1_, h2_, h3_, h4_, h5_, h6_, h7_, h8_, h9_⟩
    go_simp
    with_reducible rfl
  rotate_left
  · simp only [ps_]
    rfl
  refine one_ (i := 6) (N := some 88) #[true, true, true, true, true, true, true, false, false, false, false] rfl rfl (by kernel_rfl) (by decide) (fun K hK => ?_)
  refine goes_ Try.func37 (by kernel_rfl) rfl #[mp, .pointer (some ⟨cb, 0, none⟩), .agg #[.int .i64 5, .int .i64 op, .int .i64 D, .int .i64 A, .int .i64 B, .int .i32 num, .string nm, av]] (by rfl) rfl rfl (by first | rfl | (simp only [List.map_toArray, List.map_cons, List.map_nil]; done) | (simp only [List.map_toArray, List.map_cons, List.map_nil]; rfl)) ?_
  refine (HW.out _ (HT1.out.trans hHeld.2.2.2.2.2.2.2.2.2.out)).mono ?_
  rintro e_ w9 ⟨rfl, ht9⟩; have HT9 := Aside0.mk (hHeld.2.2.2.2.2.2.2.2.2.out.trans ht9); have HR9 := Aside0.mk (HT9.out.blk HR1.out (fun h => h)); have fd9 := row32_frozen HR9.out D; have ed9 := HT9.out.cell ed (fun h => h)
  refine ⟨_, rfl, ?_⟩
  refine hK.out _ _ ⟨ht9.cell hHeld.1 (fun h => h), ht9.cell hHeld.2.1 (fun h => h), ht9.cell hHeld.2.2.1 (fun h => h), ht9.cell hHeld.2.2.2.1 (fun h => h), ht9.cell hHeld.2.2.2.2.1 (fun h => h), ht9.cell hHeld.2.2.2.2.2.1 (fun h => h), ht9.cell hHeld.2.2.2.2.2.2.1 (fun h => h), ht9.cell hHeld.2.2.2.2.2.2.2.1 (fun h => h), ht9.cell hHeld.2.2.2.2.2.2.2.2.1 (fun h => h), ⟨hHeld.2.2.2.2.2.2.2.2.2.out.trans ht9⟩⟩ (fun hHeld => ?_)
  clear hK K
  refine norm_ (a' := ?_) ?_ ?_
  rotate_left
  · show Act.put _ (some 88) _ = _
    simp only [ps_]
    rfl
  refine pure_ (i := 7) (N := some 89) (v := ?_) (a' := ?_) #[true, true, true, true, true, true, true, true, false, false, false] rfl rfl (by kernel_rfl) (fun _ _ _ h => h) (Or.inl ⟨by rfl, ?_⟩) ?_ ?_
  rotate_left
  · intro w'
    go_simp
    with_reducible rfl
  rotate_left
  · simp only [ps_]
    rfl
  refine take_ (i := 8) (N := some 90) (v := ?_) (a' := ?_) #[true, true, true, true, true, true, true, true, true, false, false] rfl rfl (by kernel_rfl) (fun _ _ _ h => h) (Or.inl ⟨by rfl, ?_⟩) hHeld ?_ ?_
  rotate_left
  · rintro w' ⟨h0_, h1_, h2_, h3_, h4_, h5_, h6_, h7_, h8_, h9_⟩
    go_simp
    with_reducible rfl
  rotate_left
  · simp only [ps_]
    rfl
  refine pure_ (i := 9) (N := some 91) (v := ?_) (a' := ?_) #[true, true, true, true, true, true, true, true, true, true, false] rfl rfl (by kernel_rfl) (fun _ _ _ h => h) (Or.inl ⟨by rfl, ?_⟩) ?_ ?_
  rotate_left
  · intro w'
    go_simp
    with_reducible rfl
  rotate_left
  · simp only [ps_]
    rfl
  refine last_ (i := 10) (N := none) #[true, true, true, true, true, true, true, true, true, true, true] rfl rfl (by kernel_rfl) (by decide) (fun K hK => ?_)
  rw [if_pos (by rfl)]
  go_simp
  refine hK.out _ _ ?_
  clear hK K
  refine done_ (by kernel_rfl) ?_
  go_wp2
  refine bodyPost_end (v := .tuple #[]) (by simp [results, Try.results26, go_sem]) rfl ⟨rfl, ?_, ?_⟩
  · exact row32_put HR9.out D z
  · exact ((HT1.out.trans HT9.out).mono (fun q hq => hq.elim)).set (S := one rb) (.inl (one_self rb)) _
set_option maxHeartbeats 4000000 in
set_option maxRecDepth 100000 in
theorem ins_load_out (fp : Addr) (rb : Nat) (regs : List Int) (n : Nat) (hn : regs.length = n) (blk ins d : Int) (W : World) (mp : Value) (cb : Nat) (hc : W.heap[cb]? = some (.cells (fC fp rb n blk ins d) 70 (0, 0))) (hr : W.heap[rb]? = some (.cells (row32 regs) 21 (0, 0)))
    (hne : rb ≠ cb) (op D A B num : Int) (nm : ByteArray) (av : Value) (hav : av.oneCell' = true) (hW : ∀ w1, Tr nil_ W w1 → Calls Try.prog 37 #[mp, .pointer (some ⟨cb, 0, none⟩), .agg #[.int .i64 5, .int .i64 op, .int .i64 D, .int .i64 A, .int .i64 B, .int .i32 num, .string nm, av]] w1 fun e w' => e = .panicked [{ v := .iface 66 (.int .i64 3), recovered := false }] ∧ Tr nil_ w1 w') (hD0 : 0 ≤ D) (hD1 : D < n) :
    Calls Try.prog 26 #[mp, .pointer (some ⟨cb, 0, none⟩), .agg #[.int .i64 5, .int .i64 op, .int .i64 D, .int .i64 A, .int .i64 B, .int .i32 num, .string nm, av]] W fun e w' => e = .panicked [{ v := .iface 66 (.int .i64 3), recovered := false }] ∧ Tr nil_ W w' := by
  have cc0 : W.cell? ⟨cb, 0, none⟩ = some (.pointer (some fp)) := (blk_cell hc 0).trans rfl; have fc0 := blk_frozen hc 0; have cc1 : W.cell? ⟨cb, 1, none⟩ = some (.slice (some ⟨rb, 0, none⟩) n n) := (blk_cell hc 1).trans rfl; have fc1 := blk_frozen hc 1; have cc2 : W.cell? ⟨cb, 2, none⟩ = some (.int .i64 blk) := (blk_cell hc 2).trans rfl; have fc2 := blk_frozen hc 2; have cc3 : W.cell? ⟨cb, 3, none⟩ = some (.int .i64 ins) := (blk_cell hc 3).trans rfl; have fc3 := blk_frozen hc 3; have cc4 : W.cell? ⟨cb, 4, none⟩ = some (.int .i64 d) := (blk_cell hc 4).trans rfl; have fc4 := blk_frozen hc 4
  have hltc := blk_lt hc
  have hltr := blk_lt hr
  have HR := Aside0.mk hr
  have HW := Aside0.mk hW
  clear hc hr hn hW
  go_enter Try.func26, Try.ntmps26
  go_wp2
  have ht1 : Tr nil_ W (W.alloc (.cells #[.int .i64 5, .int .i64 op, .int .i64 D, .int .i64 A, .int .i64 B, .int .i32 num, .string nm, av] 44)) := (Tr.refl nil_ W).alloc _
  have hx1 : (W.alloc (.cells #[.int .i64 5, .int .i64 op, .int .i64 D, .int .i64 A, .int .i64 B, .int .i32 num, .string nm, av] 44)).heap[W.heap.size]? = some (.cells #[.int .i64 5, .int .i64 op, .int .i64 D, .int .i64 A, .int .i64 B, .int .i32 num, .string nm, av] 44 (0, 0)) := blk_new _ _
  generalize W.alloc (.cells #[.int .i64 5, .int .i64 op, .int .i64 D, .int .i64 A, .int .i64 B, .int .i32 num, .string nm, av] 44) = w1 at ht1 hx1 ⊢
  have e0 : w1.cell? ⟨W.heap.size, 0, none⟩ = some (.int .i64 5) := (blk_cell hx1 0).trans rfl
  have e1 : w1.cell? ⟨W.heap.size, 1, none⟩ = some (.int .i64 op) := (blk_cell hx1 1).trans rfl
  have e2 : w1.cell? ⟨W.heap.size, 2, none⟩ = some (.int .i64 D) := (blk_cell hx1 2).trans rfl
  have e3 : w1.cell? ⟨W.heap.size, 3, none⟩ = some (.int .i64 A) := (blk_cell hx1 3).trans rfl
  have e4 : w1.cell? ⟨W.heap.size, 4, none⟩ = some (.int .i64 B) := (blk_cell hx1 4).trans rfl
  have e5 : w1.cell? ⟨W.heap.size, 5, none⟩ = some (.int .i32 num) := (blk_cell hx1 5).trans rfl
  have e6 : w1.cell? ⟨W.heap.size, 6, none⟩ = some (.string nm) := (blk_cell hx1 6).trans rfl
  have e7 : w1.cell? ⟨W.heap.size, 7, none⟩ = some (av) := (blk_cell hx1 7).trans rfl
  clear cc0 fc0 cc1 fc1 cc2 fc2 cc3 fc3 cc4 fc4
  have HT1 := Aside0.mk ht1
  clear ht1 hx1
  refine start_ (n := 11) (S := fun w_ => w_.cell? ⟨W.heap.size, 0, none⟩ = some (.int .i64 5) ∧ w_.cell? ⟨W.heap.size, 1, none⟩ = some (.int .i64 op) ∧ w_.cell? ⟨W.heap.size, 2, none⟩ = some (.int .i64 D) ∧ w_.cell? ⟨W.heap.size, 3, none⟩ = some (.int .i64 A) ∧ w_.cell? ⟨W.heap.size, 4, none⟩ = some (.int .i64 B) ∧ w_.cell? ⟨W.heap.size, 5, none⟩ = some (.int .i32 num) ∧ w_.cell? ⟨W.heap.size, 6, none⟩ = some (.string nm) ∧ w_.cell? ⟨W.heap.size, 7, none⟩ = some (av) ∧ Aside0 (Tr nil_ w1 w_)) (ds := []) #[false, false, false, false, false, false, false, false, false, false, false] (by kernel_rfl) rfl rfl ⟨e0, e1, e2, e3, e4, e5, e6, e7, ⟨(Tr.refl _ _).drew⟩⟩ (fun hHeld => ?_)
  refine pure_ (i := 0) (N := some 82) (v := ?_) (a' := ?_) #[true, false, false, false, false, false, false, false, false, false, false] rfl rfl (by kernel_rfl) (fun _ _ _ h => h) (Or.inl ⟨by rfl, ?_⟩) ?_ ?_
  rotate_left
  · intro w'
    go_simp
    with_reducible rfl
  rotate_left
  · simp only [ps_]
    rfl
  refine pure_ (i := 1) (N := some 83) (v := ?_) (a' := ?_) #[true, true, false, false, false, false, false, false, false, false, false] rfl rfl (by kernel_rfl) (fun _ _ _ h => h) (Or.inl ⟨by rfl, ?_⟩) ?_ ?_
  rotate_left
  · intro w'
    go_simp
    with_reducible rfl
  rotate_left
  · simp only [ps_]
    rfl
  refine take_ (i := 2) (N := some 84) (v := ?_) (a' := ?_) #[true, true, true, false, false, false, false, false, false, false, false] rfl rfl (by kernel_rfl) (fun _ _ _ h => h) (Or.inl ⟨by rfl, ?_⟩) hHeld ?_ ?_
  rotate_left
  · rintro w' ⟨h0_, h1_, h2_, h3_, h4_, h5_, h6_, h7_, h8_⟩
    go_simp
    with_reducible rfl
  rotate_left
  · simp only [ps_]
    rfl
  refine pure_ (i := 3) (N := some 85) (v := ?_) (a' := ?_) #[true, true, true, true, false, false, false, false, false, false, false] rfl rfl (by kernel_rfl) (fun _ _ _ h => h) (Or.inl ⟨by rfl, ?_⟩) ?_ ?_
  rotate_left
  · intro w'
    go_simp
    with_reducible rfl
  rotate_left
  · simp only [ps_]
    rfl
  refine pure_ (i := 4) (N := some 86) (v := ?_) (a' := ?_) #[true, true, true, true, true, false, false, false, false, false, false] rfl rfl (by kernel_rfl) (fun _ _ _ h => h) (Or.inl ⟨by rfl, ?_⟩) ?_ ?_
  rotate_left
  · intro w'
    go_simp
    with_reducible rfl
  rotate_left
  · simp only [ps_]
    rfl
  refine take_ (i := 5) (N := some 87) (v := ?_) (a' := ?_) #[true, true, true, true, true, true, false, false, false, false, false] rfl rfl (by kernel_rfl) (fun _ _ _ h => h) (Or.inl ⟨by rfl, ?_⟩) hHeld ?_ ?_
  rotate_left
  · rintro w' ⟨h0_, h1_, h2_, h3_, h4_, h5_, h6_, h7_, h8_⟩
    go_simp
    with_reducible rfl
  rotate_left
  · simp only [ps_]
    rfl
  refine one_ (i := 6) (N := some 88) #[true, true, true, true, true, true, true, false, false, false, false] rfl rfl (by kernel_rfl) (by decide) (fun K hK => ?_)
  refine goesP_ Try.func37 (by kernel_rfl) rfl #[mp, .pointer (some ⟨cb, 0, none⟩), .agg #[.int .i64 5, .int .i64 op, .int .i64 D, .int .i64 A, .int .i64 B, .int .i32 num, .string nm, av]] (by rfl) rfl rfl (by first | rfl | (simp only [List.map_toArray, List.map_cons, List.map_nil]; done) | (simp only [List.map_toArray, List.map_cons, List.map_nil]; rfl)) ?_
  refine (HW.out _ (HT1.out.trans hHeld.2.2.2.2.2.2.2.2.out)).mono ?_
  rintro e_ w9 ⟨rfl, ht9⟩; have HT9 := Aside0.mk (hHeld.2.2.2.2.2.2.2.2.out.trans ht9)
  refine ⟨_, rfl, ?_⟩
  exact ⟨rfl, rfl, HT1.out.trans HT9.out⟩
set_option maxHeartbeats 4000000 in
set_option maxRecDepth 100000 in
theorem ins_store_out (fp : Addr) (rb : Nat) (regs : List Int) (n : Nat) (hn : regs.length = n) (blk ins d : Int) (W : World) (mp : Value) (cb : Nat) (hc : W.heap[cb]? = some (.cells (fC fp rb n blk ins d) 70 (0, 0))) (hr : W.heap[rb]? = some (.cells (row32 regs) 21 (0, 0)))
    (hne : rb ≠ cb) (op D A B num : Int) (nm : ByteArray) (av : Value) (hav : av.oneCell' = true) (hW : ∀ w1, Tr nil_ W w1 → Calls Try.prog 37 #[mp, .pointer (some ⟨cb, 0, none⟩), .agg #[.int .i64 6, .int .i64 op, .int .i64 D, .int .i64 A, .int .i64 B, .int .i32 num, .string nm, av]] w1 fun e w' => e = .panicked [{ v := .iface 66 (.int .i64 3), recovered := false }] ∧ Tr nil_ w1 w') (hB0 : 0 ≤ B) (hB1 : B < n) :
    Calls Try.prog 26 #[mp, .pointer (some ⟨cb, 0, none⟩), .agg #[.int .i64 6, .int .i64 op, .int .i64 D, .int .i64 A, .int .i64 B, .int .i32 num, .string nm, av]] W fun e w' => e = .panicked [{ v := .iface 66 (.int .i64 3), recovered := false }] ∧ Tr nil_ W w' := by
  have cc0 : W.cell? ⟨cb, 0, none⟩ = some (.pointer (some fp)) := (blk_cell hc 0).trans rfl; have fc0 := blk_frozen hc 0; have cc1 : W.cell? ⟨cb, 1, none⟩ = some (.slice (some ⟨rb, 0, none⟩) n n) := (blk_cell hc 1).trans rfl; have fc1 := blk_frozen hc 1; have cc2 : W.cell? ⟨cb, 2, none⟩ = some (.int .i64 blk) := (blk_cell hc 2).trans rfl; have fc2 := blk_frozen hc 2; have cc3 : W.cell? ⟨cb, 3, none⟩ = some (.int .i64 ins) := (blk_cell hc 3).trans rfl; have fc3 := blk_frozen hc 3; have cc4 : W.cell? ⟨cb, 4, none⟩ = some (.int .i64 d) := (blk_cell hc 4).trans rfl; have fc4 := blk_frozen hc 4
  have hltc := blk_lt hc
  have hltr := blk_lt hr
  have HR := Aside0.mk hr
  have cd := row32_cell hr B hB0 (by omega)
  have fcd := row32_frozen hr B
  obtain ⟨y, hy⟩ : ∃ y, get32 regs B = y := ⟨_, rfl⟩
  rw [hy] at cd
  have HCD := Aside0.mk cd
  clear hy cd fcd
  have HW := Aside0.mk hW
  clear hc hr hn hW
  go_enter Try.func26, Try.ntmps26
  go_wp2
  have ht1 : Tr nil_ W (W.alloc (.cells #[.int .i64 6, .int .i64 op, .int .i64 D, .int .i64 A, .int .i64 B, .int .i32 num, .string nm, av] 44)) := (Tr.refl nil_ W).alloc _
  have hx1 : (W.alloc (.cells #[.int .i64 6, .int .i64 op, .int .i64 D, .int .i64 A, .int .i64 B, .int .i32 num, .string nm, av] 44)).heap[W.heap.size]? = some (.cells #[.int .i64 6, .int .i64 op, .int .i64 D, .int .i64 A, .int .i64 B, .int .i32 num, .string nm, av] 44 (0, 0)) := blk_new _ _
  generalize W.alloc (.cells #[.int .i64 6, .int .i64 op, .int .i64 D, .int .i64 A, .int .i64 B, .int .i32 num, .string nm, av] 44) = w1 at ht1 hx1 ⊢
  have e0 : w1.cell? ⟨W.heap.size, 0, none⟩ = some (.int .i64 6) := (blk_cell hx1 0).trans rfl
  have e1 : w1.cell? ⟨W.heap.size, 1, none⟩ = some (.int .i64 op) := (blk_cell hx1 1).trans rfl
  have e2 : w1.cell? ⟨W.heap.size, 2, none⟩ = some (.int .i64 D) := (blk_cell hx1 2).trans rfl
  have e3 : w1.cell? ⟨W.heap.size, 3, none⟩ = some (.int .i64 A) := (blk_cell hx1 3).trans rfl
  have e4 : w1.cell? ⟨W.heap.size, 4, none⟩ = some (.int .i64 B) := (blk_cell hx1 4).trans rfl
  have e5 : w1.cell? ⟨W.heap.size, 5, none⟩ = some (.int .i32 num) := (blk_cell hx1 5).trans rfl
  have e6 : w1.cell? ⟨W.heap.size, 6, none⟩ = some (.string nm) := (blk_cell hx1 6).trans rfl
  have e7 : w1.cell? ⟨W.heap.size, 7, none⟩ = some (av) := (blk_cell hx1 7).trans rfl
  have ed := ht1.cell HCD.out (fun h => h)
  clear cc0 fc0 cc1 fc1 cc2 fc2 cc3 fc3 cc4 fc4
  have HT1 := Aside0.mk ht1
  clear ht1 hx1
  refine start_ (n := 11) (S := fun w_ => w_.cell? ⟨W.heap.size, 0, none⟩ = some (.int .i64 6) ∧ w_.cell? ⟨W.heap.size, 1, none⟩ = some (.int .i64 op) ∧ w_.cell? ⟨W.heap.size, 2, none⟩ = some (.int .i64 D) ∧ w_.cell? ⟨W.heap.size, 3, none⟩ = some (.int .i64 A) ∧ w_.cell? ⟨W.heap.size, 4, none⟩ = some (.int .i64 B) ∧ w_.cell? ⟨W.heap.size, 5, none⟩ = some (.int .i32 num) ∧ w_.cell? ⟨W.heap.size, 6, none⟩ = some (.string nm) ∧ w_.cell? ⟨W.heap.size, 7, none⟩ = some (av) ∧ w_.cell? ⟨rb, B.toNat, none⟩ = some (.int .i32 y) ∧ Aside0 (Tr nil_ w1 w_)) (ds := []) #[false, false, false, false, false, false, false, false, false, false, false] (by kernel_rfl) rfl rfl ⟨e0, e1, e2, e3, e4, e5, e6, e7, ed, ⟨(Tr.refl _ _).drew⟩⟩ (fun hHeld => ?_)
  refine pure_ (i := 0) (N := some 94) (v := ?_) (a' := ?_) #[true, false, false, false, false, false, false, false, false, false, false] rfl rfl (by kernel_rfl) (fun _ _ _ h => h) (Or.inl ⟨by rfl, ?_⟩) ?_ ?_
  rotate_left
  · intro w'
    go_simp
    with_reducible rfl
  rotate_left
  · simp only [ps_]
    rfl
  refine pure_ (i := 1) (N := some 95) (v := ?_) (a' := ?_) #[true, true, false, false, false, false, false, false, false, false, false] rfl rfl (by kernel_rfl) (fun _ _ _ h => h) (Or.inl ⟨by rfl, ?_⟩) ?_ ?_
  rotate_left
  · intro w'
    go_simp
    with_reducible rfl
  rotate_left
  · simp only [ps_]
    rfl
  refine take_ (i := 2) (N := some 96) (v := ?_) (a' := ?_) #[true, true, true, false, false, false, false, false, false, false, false] rfl rfl (by kernel_rfl) (fun _ _ _ h => h) (Or.inl ⟨by rfl, ?_⟩) hHeld ?_ ?_
  rotate_left
  · rintro w' ⟨h0_, h1_, h2_, h3_, h4_, h5_, h6_, h7_, h8_, h9_⟩
    go_simp
    with_reducible rfl
  rotate_left
  · simp only [ps_]
    rfl
  refine pure_ (i := 4) (N := some 98) (v := ?_) (a' := ?_) #[true, true, true, false, true, false, false, false, false, false, false] rfl rfl (by kernel_rfl) (fun _ _ _ h => h) (Or.inl ⟨by rfl, ?_⟩) ?_ ?_
  rotate_left
  · intro w'
    go_simp
    with_reducible rfl
  rotate_left
  · simp only [ps_]
    rfl
  refine pure_ (i := 5) (N := some 99) (v := ?_) (a' := ?_) #[true, true, true, false, true, true, false, false, false, false, false] rfl rfl (by kernel_rfl) (fun _ _ _ h => h) (Or.inl ⟨by rfl, ?_⟩) ?_ ?_
  rotate_left
  · intro w'
    go_simp
    with_reducible rfl
  rotate_left
  · simp only [ps_]
    rfl
  refine take_ (i := 6) (N := some 100) (v := ?_) (a' := ?_) #[true, true, true, false, true, true, true, false, false, false, false] rfl rfl (by kernel_rfl) (fun _ _ _ h => h) (Or.inl ⟨by rfl, ?_⟩) hHeld ?_ ?_
  rotate_left
  · rintro w' ⟨h0_, h1_, h2_, h3_, h4_, h5_, h6_, h7_, h8_, h9_⟩
    go_simp
    with_reducible rfl
  rotate_left
  · simp only [ps_]
    rfl
  refine pure_ (i := 7) (N := some 101) (v := ?_) (a' := ?_) #[true, true, true, false, true, true, true, true, false, false, false] rfl rfl (by kernel_rfl) (fun _ _ _ h => h) (Or.inl ⟨by rfl, ?_⟩) ?_ ?_
  rotate_left
  · intro w'
    go_simp
    with_reducible rfl
  rotate_left
  · simp only [ps_]
    rfl
  refine take_ (i := 8) (N := some 102) (v := ?_) (a' := ?_) #[true, true, true, false, true, true, true, true, true, false, false] rfl rfl (by kernel_rfl) (fun _ _ _ h => h) (Or.inl ⟨by rfl, ?_⟩) hHeld ?_ ?_
  rotate_left
  · rintro w' ⟨h0_, h1_, h2_, h3_, h4_, h5_, h6_, h7_, h8_, h9_⟩
    go_simp
    with_reducible rfl
  rotate_left
  · simp only [ps_]
    rfl
  refine one_ (i := 3) (N := some 97) #[true, true, true, true, true, true, true, true, true, false, false] rfl rfl (by kernel_rfl) (by decide) (fun K hK => ?_)
  refine goesP_ Try.func37 (by kernel_rfl) rfl #[mp, .pointer (some ⟨cb, 0, none⟩), .agg #[.int .i64 6, .int .i64 op, .int .i64 D, .int .i64 A, .int .i64 B, .int .i32 num, .string nm, av]] (by rfl) rfl rfl (by first | rfl | (simp only [List.map_toArray, List.map_cons, List.map_nil]; done) | (simp only [List.map_toArray, List.map_cons, List.map_nil]; rfl)) ?_
  refine (HW.out _ (HT1.out.trans hHeld.2.2.2.2.2.2.2.2.2.out)).mono ?_
  rintro e_ w9 ⟨rfl, ht9⟩; have HT9 := Aside0.mk (hHeld.2.2.2.2.2.2.2.2.2.out.trans ht9)
  refine ⟨_, rfl, ?_⟩
  exact ⟨rfl, rfl, HT1.out.trans HT9.out⟩
set_option maxHeartbeats 4000000 in
set_option maxRecDepth 100000 in
theorem ins_store (fp : Addr) (rb : Nat) (regs : List Int) (n : Nat) (hn : regs.length = n) (blk ins d : Int) (W : World) (mp : Value) (cb : Nat) (hc : W.heap[cb]? = some (.cells (fC fp rb n blk ins d) 70 (0, 0))) (hr : W.heap[rb]? = some (.cells (row32 regs) 21 (0, 0)))
    (hne : rb ≠ cb) (op D A B num : Int) (nm : ByteArray) (av : Value) (hav : av.oneCell' = true) (hB0 : 0 ≤ B) (hB1 : B < n) (wb j : Nat) (wt : TypeId) (ws : Array Value) (hz : W.heap[wb]? = some (.cells ws wt (0, 0))) (hj : j < ws.size) (hW : ∀ w1, Tr nil_ W w1 → Calls Try.prog 37 #[mp, .pointer (some ⟨cb, 0, none⟩), .agg #[.int .i64 6, .int .i64 op, .int .i64 D, .int .i64 A, .int .i64 B, .int .i32 num, .string nm, av]] w1 fun e w' => e = .returned (.pointer (some ⟨wb, j, none⟩)) ∧ Tr nil_ w1 w') :
    Calls Try.prog 26 #[mp, .pointer (some ⟨cb, 0, none⟩), .agg #[.int .i64 6, .int .i64 op, .int .i64 D, .int .i64 A, .int .i64 B, .int .i32 num, .string nm, av]] W fun e w' => e = .returned (.tuple #[]) ∧ Turned W w' wb (ws.setIfInBounds j (.int .i32 (get32 regs B))) wt := by
  have cc0 : W.cell? ⟨cb, 0, none⟩ = some (.pointer (some fp)) := (blk_cell hc 0).trans rfl; have fc0 := blk_frozen hc 0; have cc1 : W.cell? ⟨cb, 1, none⟩ = some (.slice (some ⟨rb, 0, none⟩) n n) := (blk_cell hc 1).trans rfl; have fc1 := blk_frozen hc 1; have cc2 : W.cell? ⟨cb, 2, none⟩ = some (.int .i64 blk) := (blk_cell hc 2).trans rfl; have fc2 := blk_frozen hc 2; have cc3 : W.cell? ⟨cb, 3, none⟩ = some (.int .i64 ins) := (blk_cell hc 3).trans rfl; have fc3 := blk_frozen hc 3; have cc4 : W.cell? ⟨cb, 4, none⟩ = some (.int .i64 d) := (blk_cell hc 4).trans rfl; have fc4 := blk_frozen hc 4
  have hltc := blk_lt hc
  have hltr := blk_lt hr
  have HR := Aside0.mk hr
  have cd := row32_cell hr B hB0 (by omega)
  have fcd := row32_frozen hr B
  obtain ⟨y, hy⟩ : ∃ y, get32 regs B = y := ⟨_, rfl⟩
  rw [hy] at cd ⊢
  have HCD := Aside0.mk cd
  have HZ := Aside0.mk hz
  have HJ := Aside0.mk hj
  have HW := Aside0.mk hW
  clear hc hr hn hy cd fcd hz hW hj
  go_enter Try.func26, Try.ntmps26
  go_wp2
  have ht1 : Tr nil_ W (W.alloc (.cells #[.int .i64 6, .int .i64 op, .int .i64 D, .int .i64 A, .int .i64 B, .int .i32 num, .string nm, av] 44)) := (Tr.refl nil_ W).alloc _
  have hx1 : (W.alloc (.cells #[.int .i64 6, .int .i64 op, .int .i64 D, .int .i64 A, .int .i64 B, .int .i32 num, .string nm, av] 44)).heap[W.heap.size]? = some (.cells #[.int .i64 6, .int .i64 op, .int .i64 D, .int .i64 A, .int .i64 B, .int .i32 num, .string nm, av] 44 (0, 0)) := blk_new _ _
  generalize W.alloc (.cells #[.int .i64 6, .int .i64 op, .int .i64 D, .int .i64 A, .int .i64 B, .int .i32 num, .string nm, av] 44) = w1 at ht1 hx1 ⊢
  have ed := ht1.cell HCD.out (fun h => h)
  have hz1 := ht1.blk HZ.out (fun h => h)
  have e0 : w1.cell? ⟨W.heap.size, 0, none⟩ = some (.int .i64 6) := (blk_cell hx1 0).trans rfl
  have e1 : w1.cell? ⟨W.heap.size, 1, none⟩ = some (.int .i64 op) := (blk_cell hx1 1).trans rfl
  have e2 : w1.cell? ⟨W.heap.size, 2, none⟩ = some (.int .i64 D) := (blk_cell hx1 2).trans rfl
  have e3 : w1.cell? ⟨W.heap.size, 3, none⟩ = some (.int .i64 A) := (blk_cell hx1 3).trans rfl
  have e4 : w1.cell? ⟨W.heap.size, 4, none⟩ = some (.int .i64 B) := (blk_cell hx1 4).trans rfl
  have e5 : w1.cell? ⟨W.heap.size, 5, none⟩ = some (.int .i32 num) := (blk_cell hx1 5).trans rfl
  have e6 : w1.cell? ⟨W.heap.size, 6, none⟩ = some (.string nm) := (blk_cell hx1 6).trans rfl
  have e7 : w1.cell? ⟨W.heap.size, 7, none⟩ = some (av) := (blk_cell hx1 7).trans rfl
  clear cc0 fc0 cc1 fc1 cc2 fc2 cc3 fc3 cc4 fc4
  have HT1 := Aside0.mk ht1
  have HZ1 := Aside0.mk hz1
  clear ht1 hx1 hz1
  refine start_ (n := 11) (S := fun w_ => w_.cell? ⟨W.heap.size, 0, none⟩ = some (.int .i64 6) ∧ w_.cell? ⟨W.heap.size, 1, none⟩ = some (.int .i64 op) ∧ w_.cell? ⟨W.heap.size, 2, none⟩ = some (.int .i64 D) ∧ w_.cell? ⟨W.heap.size, 3, none⟩ = some (.int .i64 A) ∧ w_.cell? ⟨W.heap.size, 4, none⟩ = some (.int .i64 B) ∧ w_.cell? ⟨W.heap.size, 5, none⟩ = some (.int .i32 num) ∧ w_.cell? ⟨W.heap.size, 6, none⟩ = some (.string nm) ∧ w_.cell? ⟨W.heap.size, 7, none⟩ = some (av) ∧ w_.cell? ⟨rb, B.toNat, none⟩ = some (.int .i32 y) ∧ Aside0 (Tr nil_ w1 w_)) (ds := [10]) #[false, false, false, false, false, false, false, false, false, false, false] (by kernel_rfl) rfl rfl ⟨e0, e1, e2, e3, e4, e5, e6, e7, ed, ⟨(Tr.refl _ _).drew⟩⟩ (fun hHeld => ?_)
  refine pure_ (i := 0) (N := some 94) (v := ?_) (a' := ?_) #[true, false, false, false, false, false, false, false, false, false, false] rfl rfl (by kernel_rfl) (fun _ _ _ h => h) (Or.inl ⟨by rfl, ?_⟩) ?_ ?_
  rotate_left
  · intro w'
    go_simp
    with_reducible rfl
  rotate_left
  · simp only [ps_]
    rfl
  refine pure_ (i := 1) (N := some 95) (v := ?_) (a' := ?_) #[true, true, false, false, false, false, false, false, false, false, false] rfl rfl (by kernel_rfl) (fun _ _ _ h => h) (Or.inl ⟨by rfl, ?_⟩) ?_ ?_
  rotate_left
  · intro w'
    go_simp
    with_reducible rfl
  rotate_left
  · simp only [ps_]
    rfl
  refine take_ (i := 2) (N := some 96) (v := ?_) (a' := ?_) #[true, true, true, false, false, false, false, false, false, false, false] rfl rfl (by kernel_rfl) (fun _ _ _ h => h) (Or.inl ⟨by rfl, ?_⟩) hHeld ?_ ?_
  rotate_left
  · rintro w' ⟨h0_, h1_, h2_, h3_, h4_, h5_, h6_, h7_, h8_, h9_⟩
    go_simp
    with_reducible rfl
  rotate_left
  · simp only [ps_]
    rfl
  refine pure_ (i := 4) (N := some 98) (v := ?_) (a' := ?_) #[true, true, true, false, true, false, false, false, false, false, false] rfl rfl (by kernel_rfl) (fun _ _ _ h => h) (Or.inl ⟨by rfl, ?_⟩) ?_ ?_
  rotate_left
  · intro w'
    go_simp
    with_reducible rfl
  rotate_left
  · simp only [ps_]
    rfl
  refine pure_ (i := 5) (N := some 99) (v := ?_) (a' := ?_) #[true, true, true, false, true, true, false, false, false, false, false] rfl rfl (by kernel_rfl) (fun _ _ _ h => h) (Or.inl ⟨by rfl, ?_⟩) ?_ ?_
  rotate_left
  · intro w'
    go_simp
    with_reducible rfl
  rotate_left
  · simp only [ps_]
    rfl
  refine take_ (i := 6) (N := some 100) (v := ?_) (a' := ?_) #[true, true, true, false, true, true, true, false, false, false, false] rfl rfl (by kernel_rfl) (fun _ _ _ h => h) (Or.inl ⟨by rfl, ?_⟩) hHeld ?_ ?_
  rotate_left
  · rintro w' ⟨h0_, h1_, h2_, h3_, h4_, h5_, h6_, h7_, h8_, h9_⟩
    go_simp
    with_reducible rfl
  rotate_left
  · simp only [ps_]
    rfl
  refine pure_ (i := 7) (N := some 101) (v := ?_) (a' := ?_) #[true, true, true, false, true, true, true, true, false, false, false] rfl rfl (by kernel_rfl) (fun _ _ _ h => h) (Or.inl ⟨by rfl, ?_⟩) ?_ ?_
  rotate_left
  · intro w'
    go_simp
    with_reducible rfl
  rotate_left
  · simp only [ps_]
    rfl
  refine take_ (i := 8) (N := some 102) (v := ?_) (a' := ?_) #[true, true, true, false, true, true, true, true, true, false, false] rfl rfl (by kernel_rfl) (fun _ _ _ h => h) (Or.inl ⟨by rfl, ?_⟩) hHeld ?_ ?_
  rotate_left
  · rintro w' ⟨h0_, h1_, h2_, h3_, h4_, h5_, h6_, h7_, h8_, h9_⟩
    go_simp
    with_reducible rfl
  rotate_left
  · simp only [ps_]
    rfl
  refine one_ (i := 3) (N := some 97) #[true, true, true, true, true, true, true, true, true, false, false] rfl rfl (by kernel_rfl) (by decide) (fun K hK => ?_)
  refine goes_ Try.func37 (by kernel_rfl) rfl #[mp, .pointer (some ⟨cb, 0, none⟩), .agg #[.int .i64 6, .int .i64 op, .int .i64 D, .int .i64 A, .int .i64 B, .int .i32 num, .string nm, av]] (by rfl) rfl rfl (by first | rfl | (simp only [List.map_toArray, List.map_cons, List.map_nil]; done) | (simp only [List.map_toArray, List.map_cons, List.map_nil]; rfl)) ?_
  refine (HW.out _ (HT1.out.trans hHeld.2.2.2.2.2.2.2.2.2.out)).mono ?_
  rintro e_ w9 ⟨rfl, ht9⟩; have HT9 := Aside0.mk (hHeld.2.2.2.2.2.2.2.2.2.out.trans ht9); have HZ9 := Aside0.mk (HT9.out.blk HZ1.out (fun h => h)); have fd9 := blk_frozen HZ9.out j; have ed9 := (blk_cell HZ9.out j).trans (Array.getElem?_eq_getElem HJ.out)
  refine ⟨_, rfl, ?_⟩
  refine hK.out _ _ ⟨ht9.cell hHeld.1 (fun h => h), ht9.cell hHeld.2.1 (fun h => h), ht9.cell hHeld.2.2.1 (fun h => h), ht9.cell hHeld.2.2.2.1 (fun h => h), ht9.cell hHeld.2.2.2.2.1 (fun h => h), ht9.cell hHeld.2.2.2.2.2.1 (fun h => h), ht9.cell hHeld.2.2.2.2.2.2.1 (fun h => h), ht9.cell hHeld.2.2.2.2.2.2.2.1 (fun h => h), ht9.cell hHeld.2.2.2.2.2.2.2.2.1 (fun h => h), ⟨hHeld.2.2.2.2.2.2.2.2.2.out.trans ht9⟩⟩ (fun hHeld => ?_)
  clear hK K
  refine norm_ (a' := ?_) ?_ ?_
  rotate_left
  · show Act.put _ (some 97) _ = _
    simp only [ps_]
    rfl
  refine pure_ (i := 9) (N := some 103) (v := ?_) (a' := ?_) #[true, true, true, true, true, true, true, true, true, true, false] rfl rfl (by kernel_rfl) (fun _ _ _ h => h) (Or.inl ⟨by rfl, ?_⟩) ?_ ?_
  rotate_left
  · intro w'
    go_simp
    with_reducible rfl
  rotate_left
  · simp only [ps_]
    rfl
  refine last_ (i := 10) (N := none) #[true, true, true, true, true, true, true, true, true, true, true] rfl rfl (by kernel_rfl) (by decide) (fun K hK => ?_)
  rw [if_pos (by rfl)]
  go_simp
  refine hK.out _ _ ?_
  clear hK K
  refine done_ (by kernel_rfl) ?_
  go_wp2
  refine bodyPost_end (v := .tuple #[]) (by simp [results, Try.results26, go_sem]) rfl ⟨rfl, ?_, ?_⟩
  · exact blk_set HZ9.out j _
  · exact ((HT1.out.trans HT9.out).mono (fun q hq => hq.elim)).set (S := one wb) (.inl (one_self wb)) _
end Go.Proofs.Ytabkinlpbefjgaa.L

namespace Go.Proofs.Ytabkinlpbefjgaa.L
open Go.RowKit Go.Proofs.Ytabkinlpbefjgaa.X Go.Proofs.YtabkinlpbefjgaaW.PrintWords Go.Proofs.YtabkinlpbefjgaaW.PrintLast Go.Proofs.YtabkinlpbefjgaaW.PrintMore
attribute [local go_sem] max2_int min2_int max_two min_two max_three min_three max_four min_four   -- for this text's walks alone
set_option linter.unusedVariables false
set_option linter.unusedSimpArgs false
set_option maxHeartbeats 4000000 in
set_option maxRecDepth 100000 in
theorem ins_read (fp : Addr) (rb : Nat) (regs : List Int) (n : Nat) (hn : regs.length = n) (blk ins d : Int) (W : World) (mp : Value) (cb : Nat) (hc : W.heap[cb]? = some (.cells (fC fp rb n blk ins d) 70 (0, 0))) (hr : W.heap[rb]? = some (.cells (row32 regs) 21 (0, 0)))
    (hne : rb ≠ cb) (op D A B num : Int) (nm : ByteArray) (av : Value) (hav : av.oneCell' = true) (hD0 : 0 ≤ D) (hD1 : D < n) (g : Nat) (gt : TypeId) (gs gs' : Array Value) (hg : W.heap[g]? = some (.cells gs gt (0, 0))) (hgr : rb ≠ g) (z : Int) (hR : ∀ w1, Tr nil_ W w1 → Calls Try.prog 38 #[mp] w1 fun e w' => e = .returned (.int .i32 z) ∧ Turned w1 w' g gs' gt) :
    Calls Try.prog 26 #[mp, .pointer (some ⟨cb, 0, none⟩), .agg #[.int .i64 8, .int .i64 op, .int .i64 D, .int .i64 A, .int .i64 B, .int .i32 num, .string nm, av]] W fun e w' => e = .returned (.tuple #[]) ∧ w'.heap[g]? = some (.cells gs' gt (0, 0)) ∧ w'.heap[rb]? = some (.cells (row32 (put32 regs D z)) 21 (0, 0)) ∧ Tr (fun q => q = g ∨ q = rb) W w' := by
  have cc0 : W.cell? ⟨cb, 0, none⟩ = some (.pointer (some fp)) := (blk_cell hc 0).trans rfl; have fc0 := blk_frozen hc 0; have cc1 : W.cell? ⟨cb, 1, none⟩ = some (.slice (some ⟨rb, 0, none⟩) n n) := (blk_cell hc 1).trans rfl; have fc1 := blk_frozen hc 1; have cc2 : W.cell? ⟨cb, 2, none⟩ = some (.int .i64 blk) := (blk_cell hc 2).trans rfl; have fc2 := blk_frozen hc 2; have cc3 : W.cell? ⟨cb, 3, none⟩ = some (.int .i64 ins) := (blk_cell hc 3).trans rfl; have fc3 := blk_frozen hc 3; have cc4 : W.cell? ⟨cb, 4, none⟩ = some (.int .i64 d) := (blk_cell hc 4).trans rfl; have fc4 := blk_frozen hc 4
  have hltc := blk_lt hc
  have hltr := blk_lt hr
  have HR := Aside0.mk hr
  have cd := row32_cell hr D hD0 (by omega)
  have fcd := row32_frozen hr D
  obtain ⟨y, hy⟩ : ∃ y, get32 regs D = y := ⟨_, rfl⟩
  rw [hy] at cd
  have HCD := Aside0.mk cd
  have hltg := blk_lt hg
  have HRD := Aside0.mk hR
  clear hc hr hn hy cd fcd hR hg
  go_enter Try.func26, Try.ntmps26
  go_wp2
  have ht1 : Tr nil_ W (W.alloc (.cells #[.int .i64 8, .int .i64 op, .int .i64 D, .int .i64 A, .int .i64 B, .int .i32 num, .string nm, av] 44)) := (Tr.refl nil_ W).alloc _
  have hx1 : (W.alloc (.cells #[.int .i64 8, .int .i64 op, .int .i64 D, .int .i64 A, .int .i64 B, .int .i32 num, .string nm, av] 44)).heap[W.heap.size]? = some (.cells #[.int .i64 8, .int .i64 op, .int .i64 D, .int .i64 A, .int .i64 B, .int .i32 num, .string nm, av] 44 (0, 0)) := blk_new _ _
  generalize W.alloc (.cells #[.int .i64 8, .int .i64 op, .int .i64 D, .int .i64 A, .int .i64 B, .int .i32 num, .string nm, av] 44) = w1 at ht1 hx1 ⊢
  have ed := ht1.cell HCD.out (fun h => h)
  have hr1 := ht1.blk HR.out (fun h => h)
  have e2 : w1.cell? ⟨W.heap.size, 2, none⟩ = some (.int .i64 D) := (blk_cell hx1 2).trans rfl
  clear cc0 fc0 cc1 fc1 cc2 fc2 cc3 fc3 cc4 fc4
  have HT1 := Aside0.mk ht1
  have HR1 := Aside0.mk hr1
  clear ht1 hx1 hr1
  refine start_ (n := 7) (S := fun w_ => w_.cell? ⟨W.heap.size, 2, none⟩ = some (.int .i64 D) ∧ Aside0 (w_ = w1.drew ∨ Turned w1.drew w_ g gs' gt)) (ds := [6]) #[false, false, false, false, false, false, false] (by kernel_rfl) rfl rfl ⟨e2, ⟨.inl rfl⟩⟩ (fun hHeld => ?_)
  refine pure_ (i := 0) (N := some 130) (v := ?_) (a' := ?_) #[true, false, false, false, false, false, false] rfl rfl (by kernel_rfl) (fun _ _ _ h => h) (Or.inl ⟨by rfl, ?_⟩) ?_ ?_
  rotate_left
  · intro w'
    go_simp
    with_reducible rfl
  rotate_left
  · simp only [ps_]
    rfl
  refine pure_ (i := 1) (N := some 131) (v := ?_) (a' := ?_) #[true, true, false, false, false, false, false] rfl rfl (by kernel_rfl) (fun _ _ _ h => h) (Or.inl ⟨by rfl, ?_⟩) ?_ ?_
  rotate_left
  · intro w'
    go_simp
    with_reducible rfl
  rotate_left
  · simp only [ps_]
    rfl
  refine take_ (i := 2) (N := some 132) (v := ?_) (a' := ?_) #[true, true, true, false, false, false, false] rfl rfl (by kernel_rfl) (fun _ _ _ h => h) (Or.inl ⟨by rfl, ?_⟩) hHeld ?_ ?_
  rotate_left
  · rintro w' ⟨h0_, h1_⟩
    go_simp
    with_reducible rfl
  rotate_left
  · simp only [ps_]
    rfl
  refine pure_ (i := 3) (N := some 133) (v := ?_) (a' := ?_) #[true, true, true, true, false, false, false] rfl rfl (by kernel_rfl) (fun _ _ _ h => h) (Or.inl ⟨by rfl, ?_⟩) ?_ ?_
  rotate_left
  · intro w'
    go_simp
    with_reducible rfl
  rotate_left
  · simp only [ps_]
    rfl
  refine one_ (i := 4) (N := some 134) #[true, true, true, true, true, false, false] rfl rfl (by kernel_rfl) (by decide) (fun K hK => ?_)
  refine goes_ Try.func38 (by kernel_rfl) rfl #[mp] (by rfl) rfl rfl (by first | rfl | (simp only [List.map_toArray, List.map_cons, List.map_nil]; done) | (simp only [List.map_toArray, List.map_cons, List.map_nil]; rfl)) ?_
  refine (HRD.out _ HT1.out.drew).mono ?_
  rintro e_ w9 ⟨rfl, ht9⟩; have HT9 := Aside0.mk ht9; have HR9 := Aside0.mk (ht9.2.blk (blk_drew HR1.out) hgr); have fd9 := row32_frozen HR9.out D; have ed9 := ht9.2.cell (W := w1.drew) ed hgr
  refine ⟨_, rfl, ?_⟩
  refine hK.out _ _ ⟨ht9.2.cell hHeld.1 (Nat.ne_of_gt hltg), ⟨.inr ht9⟩⟩ (fun hHeld => ?_)
  clear hK K
  refine norm_ (a' := ?_) ?_ ?_
  rotate_left
  · show Act.put _ (some 134) _ = _
    simp only [ps_]
    rfl
  refine pure_ (i := 5) (N := some 135) (v := ?_) (a' := ?_) #[true, true, true, true, true, true, false] rfl rfl (by kernel_rfl) (fun _ _ _ h => h) (Or.inl ⟨by rfl, ?_⟩) ?_ ?_
  rotate_left
  · intro w'
    go_simp
    with_reducible rfl
  rotate_left
  · simp only [ps_]
    rfl
  refine last_ (i := 6) (N := none) #[true, true, true, true, true, true, true] rfl rfl (by kernel_rfl) (by decide) (fun K hK => ?_)
  rw [if_pos (by rfl)]
  go_simp
  refine hK.out _ _ ?_
  clear hK K
  refine done_ (by kernel_rfl) ?_
  go_wp2
  refine bodyPost_end (v := .tuple #[]) (by simp [results, Try.results26, go_sem]) rfl ⟨rfl, ?_, ?_, ?_⟩
  · exact blk_far HT9.out.1 (fun h => hgr h.symm) _
  · exact row32_put HR9.out D z
  · exact (((HT1.out.drew).mono (fun q hq => hq.elim)).trans (HT9.out.2.mono (fun q hq => .inl hq))).set (S := fun q => q = g ∨ q = rb) (.inl (.inr rfl)) _
theorem AL1 {w : World} {o : Obj} {a : Addr} {v : Value} (h : w.cell? a = some v) : ((w.alloc o).drew).cell? a = some v := pw_cell_below (below_alloc (Below.refl _ _) o) h
def PrintPost (W : World) (g base : Nat) (ok : Nat → Prop) (E : Env) (m : MV) (tr : List Int) (z : Int) (e : Ending) (w' : World) : Prop :=
  e = .returned (.tuple #[]) ∧ ∃ tv, w'.heap[g]? = some (.cells (mC E { m with tv := tv }) 54 (0, 0)) ∧ (Kd.int .i32).R 21 w' base ok tv (tr ++ [z]) ∧ Tr (fun q => q = g ∨ some q = m.tv.ownBlock) W w'
theorem info21 : (Try.prog.info? 21).map (fun i => (i.zero, i.size, i.bytes)) = some (some (.int .i32 0), 1, 4) := by kernel_rfl
set_option maxHeartbeats 4000000 in
set_option maxRecDepth 100000 in
theorem ins_print (fp : Addr) (rb : Nat) (regs : List Int) (n : Nat) (hn : regs.length = n) (blk ins d : Int) (W : World) (mp : Value) (cb : Nat) (hc : W.heap[cb]? = some (.cells (fC fp rb n blk ins d) 70 (0, 0))) (hr : W.heap[rb]? = some (.cells (row32 regs) 21 (0, 0)))
    (hne : rb ≠ cb) (op D A B num : Int) (nm : ByteArray) (av : Value) (hav : av.oneCell' = true) (hA0 : 0 ≤ A) (hA1 : A < n) (E : Env) (m : MV) (g base : Nat) (hg : W.heap[g]? = some (.cells (mC E m) 54 (0, 0))) (hmp : mp = .pointer (some ⟨g, 0, none⟩)) (ok : Nat → Prop) (tr : List Int) (hT : (Kd.int .i32).R 21 W base ok m.tv tr) (hbase : base ≤ W.heap.size) (hbg : base ≤ g) (hfresh : ∀ k, W.heap.size ≤ k → ok k) (hokg : ∀ k, ok k → k ≠ g) (hlen : tr.length ≤ 1000000) :
    Calls Try.prog 26 #[mp, .pointer (some ⟨cb, 0, none⟩), .agg #[.int .i64 9, .int .i64 op, .int .i64 D, .int .i64 A, .int .i64 B, .int .i32 num, .string nm, av]] W fun e w' => PrintPost W g base ok E m tr (get32 regs A) e w' := by
  subst hmp
  have cc0 : W.cell? ⟨cb, 0, none⟩ = some (.pointer (some fp)) := (blk_cell hc 0).trans rfl; have fc0 := blk_frozen hc 0; have cc1 : W.cell? ⟨cb, 1, none⟩ = some (.slice (some ⟨rb, 0, none⟩) n n) := (blk_cell hc 1).trans rfl; have fc1 := blk_frozen hc 1; have cc2 : W.cell? ⟨cb, 2, none⟩ = some (.int .i64 blk) := (blk_cell hc 2).trans rfl; have fc2 := blk_frozen hc 2; have cc3 : W.cell? ⟨cb, 3, none⟩ = some (.int .i64 ins) := (blk_cell hc 3).trans rfl; have fc3 := blk_frozen hc 3; have cc4 : W.cell? ⟨cb, 4, none⟩ = some (.int .i64 d) := (blk_cell hc 4).trans rfl; have fc4 := blk_frozen hc 4
  have hltc := blk_lt hc
  have hltr := blk_lt hr
  have HR := Aside0.mk hr
  have cd := row32_cell hr A hA0 (by omega)
  have fcd := row32_frozen hr A
  obtain ⟨y, hy⟩ : ∃ y, get32 regs A = y := ⟨_, rfl⟩
  rw [hy] at cd ⊢
  have HCD := Aside0.mk cd
  have hltg := blk_lt hg
  have HG := Aside0.mk hg
  have HT := Aside0.mk hT
  have HF := Aside0.mk hfresh
  have HOK := Aside0.mk hokg
  clear hc hr hn hy cd fcd hg hT hfresh hokg
  go_enter Try.func26, Try.ntmps26
  go_wp2
  have ht1 : Tr nil_ W (W.alloc (.cells #[.int .i64 9, .int .i64 op, .int .i64 D, .int .i64 A, .int .i64 B, .int .i32 num, .string nm, av] 44)) := (Tr.refl nil_ W).alloc _
  have hx1 : (W.alloc (.cells #[.int .i64 9, .int .i64 op, .int .i64 D, .int .i64 A, .int .i64 B, .int .i32 num, .string nm, av] 44)).heap[W.heap.size]? = some (.cells #[.int .i64 9, .int .i64 op, .int .i64 D, .int .i64 A, .int .i64 B, .int .i32 num, .string nm, av] 44 (0, 0)) := blk_new _ _
  generalize W.alloc (.cells #[.int .i64 9, .int .i64 op, .int .i64 D, .int .i64 A, .int .i64 B, .int .i32 num, .string nm, av] 44) = w1 at ht1 hx1 ⊢
  have ed := ht1.cell HCD.out (fun h => h)
  have hg1 := ht1.blk HG.out (fun h => h)
  have c7 : w1.cell? ⟨g, 7, none⟩ = some m.tv := (blk_cell hg1 7).trans rfl
  have e3 : w1.cell? ⟨W.heap.size, 3, none⟩ = some (.int .i64 A) := (blk_cell hx1 3).trans rfl
  clear cc0 fc0 cc1 fc1 cc2 fc2 cc3 fc3 cc4 fc4
  have HT1 := Aside0.mk ht1
  have HG1 := Aside0.mk hg1
  have HSZ := Aside0.mk ht1.size
  have HNE := Aside0.mk (show some g ≠ m.tv.ownBlock from fun h => HOK.out g (HT.out.1 g h.symm) rfl)
  clear ht1 hx1 hg1
  refine start_ (n := 17) (S := fun w_ => w_.cell? ⟨W.heap.size, 3, none⟩ = some (.int .i64 A) ∧ w_.cell? ⟨rb, A.toNat, none⟩ = some (.int .i32 y) ∧ w_.cell? ⟨g, 7, none⟩ = some m.tv) (ds := [12, 16]) #[false, false, false, false, false, false, false, false, false, false, false, false, false, false, false, false, false] (by kernel_rfl) rfl rfl ⟨e3, ed, c7⟩ (fun hHeld => ?_)
  refine pure_ (i := 0) (N := some 138) (v := ?_) (a' := ?_) #[true, false, false, false, false, false, false, false, false, false, false, false, false, false, false, false, false] rfl rfl (by kernel_rfl) (fun _ _ _ h => h) (Or.inl ⟨by rfl, ?_⟩) ?_ ?_
  rotate_left
  · intro w'
    go_simp
    with_reducible rfl
  rotate_left
  · simp only [ps_]
    rfl
  refine pure_ (i := 1) (N := some 139) (v := ?_) (a' := ?_) #[true, true, false, false, false, false, false, false, false, false, false, false, false, false, false, false, false] rfl rfl (by kernel_rfl) (fun _ _ _ h => h) (Or.inl ⟨by rfl, ?_⟩) ?_ ?_
  rotate_left
  · intro w'
    go_simp
    with_reducible rfl
  rotate_left
  · simp only [ps_]
    rfl
  refine pure_ (i := 2) (N := some 140) (v := ?_) (a' := ?_) #[true, true, true, false, false, false, false, false, false, false, false, false, false, false, false, false, false] rfl rfl (by kernel_rfl) (fun _ _ _ h => h) (Or.inl ⟨by rfl, ?_⟩) ?_ ?_
  rotate_left
  · intro w'
    go_simp
    with_reducible rfl
  rotate_left
  · simp only [ps_]
    rfl
  refine pure_ (i := 3) (N := some 141) (v := ?_) (a' := ?_) #[true, true, true, true, false, false, false, false, false, false, false, false, false, false, false, false, false] rfl rfl (by kernel_rfl) (fun _ _ _ h => h) (Or.inl ⟨by rfl, ?_⟩) ?_ ?_
  rotate_left
  · intro w'
    go_simp
    with_reducible rfl
  rotate_left
  · simp only [ps_]
    rfl
  refine pure_ (i := 4) (N := some 142) (v := ?_) (a' := ?_) #[true, true, true, true, true, false, false, false, false, false, false, false, false, false, false, false, false] rfl rfl (by kernel_rfl) (fun _ _ _ h => h) (Or.inl ⟨by rfl, ?_⟩) ?_ ?_
  rotate_left
  · intro w'
    go_simp
    with_reducible rfl
  rotate_left
  · simp only [ps_]
    rfl
  refine take_ (i := 5) (N := some 143) (v := ?_) (a' := ?_) #[true, true, true, true, true, true, false, false, false, false, false, false, false, false, false, false, false] rfl rfl (by kernel_rfl) (fun _ _ _ h => h) (Or.inl ⟨by rfl, ?_⟩) hHeld ?_ ?_
  rotate_left
  · rintro w' ⟨h0_, h1_, h2_⟩
    go_simp
    with_reducible rfl
  rotate_left
  · simp only [ps_]
    rfl
  refine pure_ (i := 6) (N := some 144) (v := ?_) (a' := ?_) #[true, true, true, true, true, true, true, false, false, false, false, false, false, false, false, false, false] rfl rfl (by kernel_rfl) (fun _ _ _ h => h) (Or.inl ⟨by rfl, ?_⟩) ?_ ?_
  rotate_left
  · intro w'
    go_simp
    with_reducible rfl
  rotate_left
  · simp only [ps_]
    rfl
  refine pure_ (i := 7) (N := some 145) (v := ?_) (a' := ?_) #[true, true, true, true, true, true, true, true, false, false, false, false, false, false, false, false, false] rfl rfl (by kernel_rfl) (fun _ _ _ h => h) (Or.inl ⟨by rfl, ?_⟩) ?_ ?_
  rotate_left
  · intro w'
    go_simp
    with_reducible rfl
  rotate_left
  · simp only [ps_]
    rfl
  refine take_ (i := 8) (N := some 146) (v := ?_) (a' := ?_) #[true, true, true, true, true, true, true, true, true, false, false, false, false, false, false, false, false] rfl rfl (by kernel_rfl) (fun _ _ _ h => h) (Or.inl ⟨by rfl, ?_⟩) hHeld ?_ ?_
  rotate_left
  · rintro w' ⟨h0_, h1_, h2_⟩
    go_simp
    with_reducible rfl
  rotate_left
  · simp only [ps_]
    rfl
  refine pure_ (i := 9) (N := some 147) (v := ?_) (a' := ?_) #[true, true, true, true, true, true, true, true, true, true, false, false, false, false, false, false, false] rfl rfl (by kernel_rfl) (fun _ _ _ h => h) (Or.inl ⟨by rfl, ?_⟩) ?_ ?_
  rotate_left
  · intro w'
    go_simp
    with_reducible rfl
  rotate_left
  · simp only [ps_]
    rfl
  refine take_ (i := 10) (N := some 148) (v := ?_) (a' := ?_) #[true, true, true, true, true, true, true, true, true, true, true, false, false, false, false, false, false] rfl rfl (by kernel_rfl) (fun _ _ _ h => h) (Or.inl ⟨by rfl, ?_⟩) hHeld ?_ ?_
  rotate_left
  · rintro w' ⟨h0_, h1_, h2_⟩
    go_simp
    with_reducible rfl
  rotate_left
  · simp only [ps_]
    rfl
  refine one_ (i := 11) (N := some 149) #[true, true, true, true, true, true, true, true, true, true, true, true, false, false, false, false, false] rfl rfl (by kernel_rfl) (by decide) (fun K hK => ?_)
  rw [if_pos (by rfl)]
  go_simp
  refine hK.out _ _ (⟨AL1 e3, AL1 ed, AL1 c7⟩) (fun hHeld => ?_)
  clear hK K
  refine last_ (i := 12) (N := some 150) #[true, true, true, true, true, true, true, true, true, true, true, true, true, false, false, false, false] rfl rfl (by kernel_rfl) (by decide) (fun K hK => ?_)
  rw [show (w1.alloc (Obj.cells #[Value.int IntKind.i32 y] 21)).drew = w1.drew.alloc (.cells [Value.int .i32 y].toArray 21) from rfl]
  refine Kd.R_append_step (Kd.int .i32) (w0 := w1.drew) base rfl (.tmp 143) (.tmp 149) 26 21 (.int .i32 0) 4 rfl Try.underlying26 info21 rfl (by decide) (by decide) m.tv tr y [.int .i32 y] ok (fun _ => False) rfl rfl rfl (fun _ h => h.elim) (fun k hk => HF.out k (Nat.le_trans HSZ.out hk)) (Kd.R_drew (Kd.R_step HT.out (fun k _ hk => HT1.out.keep k hk (fun h => h)))) (Below.refl _ _) (Nat.le_trans hbase HSZ.out) (by omega) ?_
  intro v9 w9 hR9 hb9 hg9 _
  obtain ⟨A9, c9, rfl⟩ := Kd.R_slice hR9
  have HR9 := Aside0.mk hR9
  have HG9 := Aside0.mk hg9
  clear hR9 hb9 hg9
  refine hK.out _ _ ?_
  clear hK K
  refine norm_ (a' := ?_) ?_ ?_
  rotate_left
  · show Act.put _ (some 150) _ = _
    simp only [ps_]
    rfl
  refine pure_ (i := 13) (N := some 151) (v := ?_) (a' := ?_) #[true, true, true, true, true, true, true, true, true, true, true, true, true, true, false, false, false] rfl rfl (by kernel_rfl) (fun _ _ _ h => h) (Or.inl ⟨by rfl, ?_⟩) ?_ ?_
  rotate_left
  · intro w'
    go_simp
    with_reducible rfl
  rotate_left
  · simp only [ps_]
    rfl
  refine pure_ (i := 14) (N := some 152) (v := ?_) (a' := ?_) #[true, true, true, true, true, true, true, true, true, true, true, true, true, true, true, false, false] rfl rfl (by kernel_rfl) (fun _ _ _ h => h) (Or.inl ⟨by rfl, ?_⟩) ?_ ?_
  rotate_left
  · intro w'
    go_simp
    with_reducible rfl
  rotate_left
  · simp only [ps_]
    rfl
  refine pure_ (i := 15) (N := some 153) (v := ?_) (a' := ?_) #[true, true, true, true, true, true, true, true, true, true, true, true, true, true, true, true, false] rfl rfl (by kernel_rfl) (fun _ _ _ h => h) (Or.inl ⟨by rfl, ?_⟩) ?_ ?_
  rotate_left
  · intro w'
    go_simp
    with_reducible rfl
  rotate_left
  · simp only [ps_]
    rfl
  refine last_ (i := 16) (N := none) #[true, true, true, true, true, true, true, true, true, true, true, true, true, true, true, true, true] rfl rfl (by kernel_rfl) (by decide) (fun K hK => ?_)
  have hh9 := blk_grown (w := w1.drew) (blk_drew HG1.out) HG9.out HNE.out
  have c97 : w9.cell? ⟨g, 7, none⟩ = some m.tv := (blk_cell hh9 7).trans rfl
  have f97 := blk_frozen hh9 7
  have HH9 := Aside0.mk hh9
  clear hh9
  rw [if_pos (by rfl)]
  go_simp
  refine hK.out _ _ ?_
  clear hK K
  refine done_ (by kernel_rfl) ?_
  go_wp2
  refine bodyPost_end (v := .tuple #[]) (by simp [results, Try.results26, go_sem]) rfl ⟨rfl, _, ?_, Kd.R_far (p := ⟨g, 7, none⟩) HR9.out (fun k hk => HOK.out k hk) _, ?_⟩
  · exact blk_put HH9.out 7 _ (by simp [mC])
  · exact (((HT1.out.drew).mono (fun q hq => hq.elim)).grown HG9.out (fun k hk => .inl (.inr hk.symm))).set (S := fun q => q = g ∨ some q = m.tv.ownBlock) (.inl (.inl rfl)) _
end Go.Proofs.Ytabkinlpbefjgaa.L

