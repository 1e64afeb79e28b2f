/- Texts of this seat that a claim bears, put together by this session's own program shake.py: TrL, TrM, TrP. -/
import Derived.Test.YtabkinlpbefjgaaKd10
namespace Go.Proofs.Ytabkinlpbefjgaa.L
open Go.RowKit Go.Proofs.Ytabkinlpbefjgaa.X Go.Proofs.YtabkinlpbefjgaaW.PrintWords Go.Proofs.YtabkinlpbefjgaaW.PrintLast Go.Proofs.YtabkinlpbefjgaaW.PrintMore
attribute [local go_sem] max2_int min2_int max_two min_two max_three min_three max_four min_four   -- for this text's walks alone
set_option linter.unusedVariables false
set_option linter.unusedSimpArgs false
section
variable {ops : Array Oper} {rest : List Oper} {o : Oper} {a : Act} {W : World} {Q : Exit → Act → World → Prop}
theorem wp_make32 (hgd : o.guard = none) (x y : Operand) (ho : o.op = .makeSlice 26 x y) (n : Nat) (hx : a.eval x = .int .i64 (n : Int)) (hy : a.eval y = .int .i64 (n : Int)) (hn : n ≤ 4096)
    (h : ∀ w1, w1.heap[W.heap.size]? = some (.cells (row32 (List.replicate n 0)) 21 (0, 0)) → Tr nil_ W w1 → w1.heap.size = W.heap.size + 1 → wpList Try.prog ops Q rest (a.put o.dst (.slice (some ⟨W.heap.size, 0, none⟩) n n)) w1) : wpList Try.prog ops Q (o :: rest) a W := by
  refine wpList_plain hgd fun K hK => ?_
  obtain ⟨i, hi, hz, hs, hby⟩ : ∃ i, Try.prog.info? 21 = some i ∧ i.zero = some (.int .i32 0) ∧ i.size = 1 ∧ i.bytes = 4 := by
    obtain ⟨i, hi, h2⟩ := Option.map_eq_some_iff.1 info21
    simp only [Prod.mk.injEq] at h2
    exact ⟨i, hi, h2⟩
  have hrun := run_make (P := Try.prog) W 26 21 i (.int .i32 0) Try.underlying26 hi hz .i64 .i64 (n : Int) (n : Int) (by omega) (by omega) (by rw [hby]; omega) (by omega)
  have hc : madeCells (Value.cells (.int .i32 0)) (((n : Int)).toNat * i.size) = row32 (List.replicate n 0) := by
    rw [hs, Nat.mul_one, Int.toNat_natCast]
    apply Array.ext
    · simp [size_madeCells, row32_size]
    · intro k h1 h2
      simp [row32, madeCells, Value.cells, Nat.mod_one]
  rw [hc] at hrun
  unfold Oper.wp
  simp only [execOp, ho, hx, hy, Sem.run_bind, Sem.run_pure, Result.andThen_ok, hrun]
  try rw [Int.toNat_natCast]
  refine hK _ _ ?_
  exact (h _ (blk_new _ _) ((Tr.refl _ _).alloc _) (by simp))
theorem wp_copy32 (hgd : o.guard = none) (x y : Operand) (ho : o.op = .call { callee := .builtin .copy, args := #[x, y], argTypes := #[26, 26] }) (g n : Nat) (l : List Int) (hl : l.length = n) (hg : W.heap[g]? = some (.cells (row32 l) 21 (0, 0)))
    (A : Option Addr) (k c : Nat) (xs : List Int) (hx : a.eval x = .slice (some ⟨g, 0, none⟩) n n) (hy : a.eval y = .slice A k c) (hxs : (Kd.int .i32).C W A k xs) (hk : k ≤ n)
    (h : ∀ v w1, w1.heap[g]? = some (.cells (row32 (xs ++ l.drop k)) 21 (0, 0)) → Tr (one g) W w1 → w1.heap.size = W.heap.size → wpList Try.prog ops Q rest (a.put o.dst v) w1) : wpList Try.prog ops Q (o :: rest) a W := by
  have hxk : xs.length = k := hxs.1
  rcases Nat.eq_zero_or_pos k with h0 | h0
  · have e : xs = [] := List.eq_nil_of_length_eq_zero (by omega)
    refine wpList_copy_nothing hgd x y 26 26 ho 21 Try.underlying26 (by obtain ⟨i, hi, h2⟩ := Option.map_eq_some_iff.1 info21; simp only [Prod.mk.injEq] at h2; rw [hi]; simp [h2.2.1]) _ _ n n k c hx hy (by rw [h0]; simp) ?_
    refine h _ _ ?_ (Tr.refl _ _) rfl
    rw [e, h0]
    simpa using hg
  · obtain ⟨ad, hA, hcell⟩ := hxs.2.2 h0
    subst hA
    refine wpList_copy_own hgd x y 26 26 ho 21 Try.underlying26 (by obtain ⟨i, hi, h2⟩ := Option.map_eq_some_iff.1 info21; simp only [Prod.mk.injEq] at h2; rw [hi]; simp [h2.2.1]) g 0 n n ad k c hx hy (row32 l) 21 hg (xs.map (Value.int .i32)) (by rw [List.length_map, hxk]; exact (Nat.min_eq_left hk).symm) ?_ (by rw [List.length_map, row32_size]; omega) (by intro v hv; obtain ⟨z, _, rfl⟩ := List.mem_map.1 hv; rfl) ?_
    · intro j v hv
      rw [List.getElem?_map] at hv
      obtain ⟨z, hz, rfl⟩ := Option.map_eq_some_iff.1 hv
      obtain ⟨cs, _, hr, hcc⟩ := hcell j z hz
      have e : cs = [.int .i32 z] := hr
      have := hcc 0 (.int .i32 z) (by rw [e]; rfl)
      rwa [show (Kd.int .i32).sz = 1 from rfl, Nat.mul_one, Nat.add_zero] at this
    · have e : ((row32 l).toList.take 0 ++ (xs.map (Value.int .i32) ++ (row32 l).toList.drop (0 + (xs.map (Value.int .i32)).length))).toArray = row32 (xs ++ l.drop k) := by
        simp [row32, hxk, List.map_drop]
      rw [e]
      refine h _ _ (setRow_heap W g _ _ _ _ hg) ⟨rfl, rfl, rfl, by rw [setRow_size]; exact Nat.le_refl _, fun q _ hq => setRow_other W g q _ hq⟩ (setRow_size W g _)
end
theorem own_lt' {d : Kd Nat} {e : Nat} {W : World} {base : Nat} {ok : Nat → Prop} {v : Value} {xs : List Nat} (h : d.R e W base ok v xs) (k : Nat) (hk : v.ownBlock = some k) : k < W.heap.size := by
  obtain ⟨inner, ho⟩ := Kd.R_own h
  exact own_lt ho k hk
def EnterPost (W : World) (g base : Nat) (ok : Nat → Prop) (E : Env) (m : MV) (cbs : List Nat) (fa : Addr) (n : Nat) (args : List Int) (d : Int) (e : Ending) (w' : World) : Prop :=
  e = .returned (.tuple #[]) ∧ ∃ cv cb rb, w'.heap[g]? = some (.cells (mC E { m with cv := cv }) 54 (0, 0)) ∧ kptr.R 68 w' base (fun k => ok k ∧ k ≠ cb ∧ k ≠ rb) cv (cbs ++ [cb]) ∧ w'.heap[cb]? = some (.cells (fC fa rb n 0 0 d) 70 (0, 0)) ∧
    w'.heap[rb]? = some (.cells (row32 (args ++ List.replicate (n - args.length) 0)) 21 (0, 0)) ∧ W.heap.size ≤ cb ∧ W.heap.size ≤ rb ∧ cb ≠ rb ∧ Tr (fun q => q = g ∨ some q = m.cv.ownBlock) W w'
theorem info68 : (Try.prog.info? 68).map (fun i => (i.zero, i.size, i.bytes)) = some (some (.pointer none), 1, 8) := by kernel_rfl
set_option maxHeartbeats 4000000 in
set_option maxRecDepth 100000 in
theorem enter_full (E : Env) (m : MV) (W : World) (g : Nat) (hb : W.heap[g]? = some (.cells (mC E m) 54 (0, 0))) (A : Option Addr) (n c : Nat) (hcv : m.cv = .slice A n c) (hn : 32 ≤ n) (nm : ByteArray) (av : Value) (d : Int) :
    Calls Try.prog 24 #[.pointer (some ⟨g, 0, none⟩), .string nm, av, .int .i64 d] W fun e w' => e = .panicked [{ v := .iface 66 (.int .i64 4), recovered := false }] ∧ w' = W := by
  rw [show mC E m = mC E { m with cv := .slice A n c } from by rw [← hcv]] at hb
  have cm0 : W.cell? ⟨g, 0, none⟩ = some (.map (some E.fm)) := (blk_cell hb 0).trans rfl; have fm0 := blk_frozen hb 0; have cm1 : W.cell? ⟨g, 1, none⟩ = some (.map (some E.wm)) := (blk_cell hb 1).trans rfl; have fm1 := blk_frozen hb 1; have cm2 : W.cell? ⟨g, 2, none⟩ = some (E.iv) := (blk_cell hb 2).trans rfl; have fm2 := blk_frozen hb 2; have cm3 : W.cell? ⟨g, 3, none⟩ = some (.int .i64 E.fuel) := (blk_cell hb 3).trans rfl; have fm3 := blk_frozen hb 3; have cm4 : W.cell? ⟨g, 4, none⟩ = some (.slice A n c) := (blk_cell hb 4).trans rfl; have fm4 := blk_frozen hb 4; have cm5 : W.cell? ⟨g, 5, none⟩ = some (.int .i64 m.en) := (blk_cell hb 5).trans rfl; have fm5 := blk_frozen hb 5; have cm6 : W.cell? ⟨g, 6, none⟩ = some (.int .i32 m.va) := (blk_cell hb 6).trans rfl; have fm6 := blk_frozen hb 6; have cm7 : W.cell? ⟨g, 7, none⟩ = some (m.tv) := (blk_cell hb 7).trans rfl; have fm7 := blk_frozen hb 7; have cm8 : W.cell? ⟨g, 8, none⟩ = some (.int .i64 (m.st : Int)) := (blk_cell hb 8).trans rfl; have fm8 := blk_frozen hb 8; have cm9 : W.cell? ⟨g, 9, none⟩ = some (.int .i64 (m.rd : Int)) := (blk_cell hb 9).trans rfl; have fm9 := blk_frozen hb 9
  clear hb hcv
  go_enter Try.func24, Try.ntmps24
  go_wp2
  exact ⟨rfl, rfl, rfl⟩
set_option maxHeartbeats 4000000 in
set_option maxRecDepth 100000 in
theorem enter_ok (E : Env) (m : MV) (W : World) (g base : Nat) (hb : W.heap[g]? = some (.cells (mC E m) 54 (0, 0))) (ok : Nat → Prop) (cbs : List Nat) (hR : kptr.R 68 W base ok m.cv cbs) (hlen : cbs.length < 32) (hbase : base ≤ W.heap.size) (hfresh : ∀ k, W.heap.size ≤ k → ok k) (hokg : ∀ k, ok k → k ≠ g)
    (nm : ByteArray) (A : Option Addr) (k c : Nat) (args : List Int) (ha : (Kd.int .i32).C W A k args) (d : Int) (fa : Addr) (n : Nat) (hm : MapAt 50 E.fm W nm (.pointer (some fa))) (hf : W.cell? ⟨fa.block, fa.off + 2, none⟩ = some (.int .i64 (n : Int))) (hk : k ≤ n) (hn : n ≤ 4096) :
    Calls Try.prog 24 #[.pointer (some ⟨g, 0, none⟩), .string nm, .slice A k c, .int .i64 d] W (EnterPost W g base ok E m cbs fa n args d) := by
  obtain ⟨A0, cc, hcv⟩ := Kd.R_slice hR
  have HB := Aside0.mk hb
  rw [show mC E m = mC E { m with cv := .slice A0 cbs.length cc } from by rw [← hcv]] at hb
  have cm0 : W.cell? ⟨g, 0, none⟩ = some (.map (some E.fm)) := (blk_cell hb 0).trans rfl; have fm0 := blk_frozen hb 0; have cm1 : W.cell? ⟨g, 1, none⟩ = some (.map (some E.wm)) := (blk_cell hb 1).trans rfl; have fm1 := blk_frozen hb 1; have cm2 : W.cell? ⟨g, 2, none⟩ = some (E.iv) := (blk_cell hb 2).trans rfl; have fm2 := blk_frozen hb 2; have cm3 : W.cell? ⟨g, 3, none⟩ = some (.int .i64 E.fuel) := (blk_cell hb 3).trans rfl; have fm3 := blk_frozen hb 3; have cm4 : W.cell? ⟨g, 4, none⟩ = some (.slice A0 cbs.length cc) := (blk_cell hb 4).trans rfl; have fm4 := blk_frozen hb 4; have cm5 : W.cell? ⟨g, 5, none⟩ = some (.int .i64 m.en) := (blk_cell hb 5).trans rfl; have fm5 := blk_frozen hb 5; have cm6 : W.cell? ⟨g, 6, none⟩ = some (.int .i32 m.va) := (blk_cell hb 6).trans rfl; have fm6 := blk_frozen hb 6; have cm7 : W.cell? ⟨g, 7, none⟩ = some (m.tv) := (blk_cell hb 7).trans rfl; have fm7 := blk_frozen hb 7; have cm8 : W.cell? ⟨g, 8, none⟩ = some (.int .i64 (m.st : Int)) := (blk_cell hb 8).trans rfl; have fm8 := blk_frozen hb 8; have cm9 : W.cell? ⟨g, 9, none⟩ = some (.int .i64 (m.rd : Int)) := (blk_cell hb 9).trans rfl; have fm9 := blk_frozen hb 9
  have hltg := blk_lt hb
  have cmap := hm W rfl
  have HCV := Aside0.mk hcv
  have HRC : Aside0 (kptr.R 68 W base ok (.slice A0 cbs.length cc) cbs) := ⟨hcv ▸ hR⟩
  have HF := Aside0.mk hfresh
  have HOK := Aside0.mk hokg
  have HA := Aside0.mk ha
  clear hb hcv hR hfresh hokg ha hm
  go_enter Try.func24, Try.ntmps24
  go_wp2_with (first
    | ((with_reducible refine gate_dst (N := 28) rfl ?_); refine wp_make32 rfl (.tmp 27) (.tmp 27) rfl n rfl rfl hn ?_; intro w1 h1_ h2_ h3_; have H1 := Aside0.mk h1_; have HT1 := Aside0.mk h2_; have HS1 := Aside0.mk h3_; clear h1_ h2_ h3_)
    | ((with_reducible refine gate_dst (N := 37) rfl ?_)
       refine wp_copy32 rfl (.tmp 35) (.tmp 36) rfl W.heap.size n (List.replicate n 0) List.length_replicate (blk_alloc H1.out _) A k c args rfl rfl (Kd.C_below HA.out ((HT1.out.alloc _).to_below (Nat.le_refl _) (fun _ h => h.elim))) hk ?_
       intro v2 w2 h1_ h2_ h3_
       have H2 := Aside0.mk h1_
       have HT2 := Aside0.mk h2_
       have HS2 := Aside0.mk h3_
       have hcb_ := h2_.blk (blk_new w1 (.cells #[.pointer (some fa), .slice (some ⟨W.heap.size, 0, none⟩) n n, .int .i64 0, .int .i64 0, .int .i64 d] 70)) (show ¬ w1.heap.size = W.heap.size by rw [HS1.out]; omega)
       have HCB := Aside0.mk hcb_
       have hTW_ := (HT1.out.alloc (.cells #[.pointer (some fa), .slice (some ⟨W.heap.size, 0, none⟩) n n, .int .i64 0, .int .i64 0, .int .i64 d] 70)).then_ (S := nil_) h2_ (fun k hk => .inr (Nat.le_of_eq hk.symm))
       have HTW := Aside0.mk hTW_
       have hb2_ := hTW_.blk HB.out (fun h => h)
       have HB2 := Aside0.mk hb2_
       have d4 : w2.cell? ⟨g, 4, none⟩ = some (.slice A0 cbs.length cc) := (blk_cell hb2_ 4).trans (by rw [← HCV.out]; rfl)
       clear h1_ h2_ h3_ hcb_ hTW_ hb2_)
    | ((with_reducible refine gate_dst (N := 45) rfl ?_)
       have hsz_ : w2.heap.size = w1.heap.size + 1 := by rw [HS2.out]; simp
       have HSZ := Aside0.mk hsz_
       clear hsz_
       refine Kd.R_append kptr (w0 := w2) base rfl (.tmp 42) (.tmp 44) 52 68 (.pointer none) 8 rfl Try.underlying52 info68 rfl (by decide) (by decide) (.slice A0 cbs.length cc) cbs w1.heap.size [.pointer (some ⟨w1.heap.size, 0, none⟩)] (fun q => ok q ∧ q ≠ w1.heap.size ∧ q ≠ W.heap.size) (fun _ => False) rfl rfl rfl (fun _ h => h.elim) ?aF ?aO (Below.refl _ _) ?aB (by omega) ?_
       case aF =>
         intro q hq
         have h1_ := HSZ.out
         have h2_ := HS1.out
         exact ⟨HF.out q (by omega), by omega, by omega⟩
       case aO =>
         refine Kd.R_mono (Kd.R_step (Kd.R_bound HRC.out) (fun q hq _ => HTW.out.keep q hq.2.2.1 (fun h => h))) (fun q hq => ⟨hq.1, ?_, ?_⟩)
         · have h2_ := HS1.out; have := hq.2.2.1; omega
         · have := hq.2.2.1; omega
       case aB => have h1_ := HTW.out.size; omega
       intro v9 w9 hR9 hb9 hg9 hat9
       obtain ⟨A9, c9, rfl⟩ := Kd.R_slice hR9
       have hb9_ := blk_grown HB2.out hg9 (fun h => HOK.out g (HRC.out.1 g h.symm) rfl)
       have c94 : w9.cell? ⟨g, 4, none⟩ = some (.slice A0 cbs.length cc) := (blk_cell hb9_ 4).trans (by rw [← HCV.out]; rfl)
       have f94 := blk_frozen hb9_ 4
       have HB9 := Aside0.mk hb9_
       have HR9 := Aside0.mk hR9
       have HG9 := Aside0.mk hg9
       clear hR9 hb9 hg9 hat9 hb9_)
    | fail)
  clear cm0 fm0 cm1 fm1 cm2 fm2 cm3 fm3 cm4 fm4 cm5 fm5 cm6 fm6 cm7 fm7 cm8 fm8 cm9 fm9
  have hnw1 : some w1.heap.size ≠ (Value.slice A0 cbs.length cc).ownBlock := fun h => by have := own_lt' HRC.out w1.heap.size h.symm; have := HS1.out; omega
  have hnw0 : some W.heap.size ≠ (Value.slice A0 cbs.length cc).ownBlock := fun h => by have := own_lt' HRC.out W.heap.size h.symm; omega
  have hgc : w1.heap.size ≠ g := by have := HS1.out; omega
  have hgr : W.heap.size ≠ g := by omega
  refine bodyPost_end (v := .tuple #[]) (by simp [results, Try.results24, go_sem]) rfl ⟨rfl, _, w1.heap.size, W.heap.size, blk_put HB9.out 4 _ (by simp [mC]), Kd.R_far (p := ⟨g, 4, none⟩) HR9.out (fun q hq => HOK.out q hq.1) _, ?_, ?_, ?_, Nat.le_refl _, ?_, ?_⟩
  · exact blk_far (blk_grown HCB.out HG9.out hnw1) hgc _
  · refine blk_far ?_ hgr _
    have h_ := blk_grown H2.out HG9.out hnw0
    rwa [List.drop_replicate, ← HA.out.1] at h_
  · have := HS1.out; omega
  · have := HS1.out; omega
  · rw [HCV.out]
    exact ((HTW.out.mono (fun q hq => hq.elim)).grown HG9.out (fun q hq => .inl (.inr hq.symm))).set (S := fun q => q = g ∨ some q = (Value.slice A0 cbs.length cc).ownBlock) (.inl (.inl rfl)) _
end Go.Proofs.Ytabkinlpbefjgaa.L

namespace Go.Proofs.Ytabkinlpbefjgaa.L
open Go.RowKit Go.Proofs.Ytabkinlpbefjgaa.X Go.Proofs.YtabkinlpbefjgaaW.PrintWords Go.Proofs.YtabkinlpbefjgaaW.PrintLast Go.Proofs.YtabkinlpbefjgaaW.PrintMore
attribute [local go_sem] max2_int min2_int max_two min_two max_three min_three max_four min_four   -- for this text's walks alone
set_option linter.unusedVariables false
set_option linter.unusedSimpArgs false
theorem own_ge {d : Kd Int} {e : Nat} {W : World} {base : Nat} {ok : Nat → Prop} {v : Value} {xs : List Int} (h : d.R e W base ok v xs) (k : Nat) (hk : some k = v.ownBlock ∨ v.ownBlock = some k) : base ≤ k := by
  obtain ⟨inner, ho⟩ := Kd.R_own h
  exact own_base ho k (hk.elim (fun h => h.symm) id)
set_option maxHeartbeats 4000000 in
set_option maxRecDepth 100000 in
theorem ins_call_ok (fp : Addr) (rb : Nat) (regs : List Int) (n : Nat) (hn : regs.length = n) (blk ins d : Int) (W : World) (mp : Value) (cb : Nat) (hc : W.heap[cb]? = some (.cells (fC fp rb n blk ins d) 70 (0, 0))) (hr : W.heap[rb]? = some (.cells (row32 regs) 21 (0, 0)))
    (op D A B num : Int) (nm : ByteArray) (A7 : Option Addr) (k7 c7 : Nat) (hk7 : k7 ≤ c7) (ixs : List Int) (hx : (Kd.int .i64).C W A7 k7 ixs) (hix : ∀ i ∈ ixs, 0 ≤ i ∧ i < n) (hk8 : k7 ≤ 8) (P : World → Prop)
    (hE : ∀ w1 A c, Tr nil_ W w1 → (Kd.int .i32).C w1 A k7 (ixs.map (get32 regs)) → k7 ≤ c → Calls Try.prog 24 #[mp, .string nm, .slice A k7 c, .int .i64 D] w1 fun e w' => e = .returned (.tuple #[]) ∧ P w') :
    Calls Try.prog 26 #[mp, .pointer (some ⟨cb, 0, none⟩), .agg #[.int .i64 7, .int .i64 op, .int .i64 D, .int .i64 A, .int .i64 B, .int .i32 num, .string nm, .slice A7 k7 c7]] W fun e w' => e = .returned (.tuple #[]) ∧ P w' := by
  have cc0 : W.cell? ⟨cb, 0, none⟩ = some (.pointer (some fp)) := (blk_cell hc 0).trans rfl; have fc0 := blk_frozen hc 0; have cc1 : W.cell? ⟨cb, 1, none⟩ = some (.slice (some ⟨rb, 0, none⟩) n n) := (blk_cell hc 1).trans rfl; have fc1 := blk_frozen hc 1; have cc2 : W.cell? ⟨cb, 2, none⟩ = some (.int .i64 blk) := (blk_cell hc 2).trans rfl; have fc2 := blk_frozen hc 2; have cc3 : W.cell? ⟨cb, 3, none⟩ = some (.int .i64 ins) := (blk_cell hc 3).trans rfl; have fc3 := blk_frozen hc 3; have cc4 : W.cell? ⟨cb, 4, none⟩ = some (.int .i64 d) := (blk_cell hc 4).trans rfl; have fc4 := blk_frozen hc 4
  have hltc := blk_lt hc
  have hltr := blk_lt hr
  have HR := Aside0.mk hr
  have HX := Aside0.mk hx
  have HXL := Aside0.mk hx.1
  have HIX := Aside0.mk hix
  have HE := Aside0.mk hE
  have HN := Aside0.mk hn
  clear hc hr hn hE hx hix
  go_enter Try.func26, Try.ntmps26
  go_wp2
  clear cc0 fc0 cc1 fc1 cc2 fc2 cc3 fc3 cc4 fc4
  have ht1 : Tr nil_ W (W.alloc (.cells #[.int .i64 7, .int .i64 op, .int .i64 D, .int .i64 A, .int .i64 B, .int .i32 num, .string nm, .slice A7 k7 c7] 44)) := (Tr.refl nil_ W).alloc _
  have hx1 : (W.alloc (.cells #[.int .i64 7, .int .i64 op, .int .i64 D, .int .i64 A, .int .i64 B, .int .i32 num, .string nm, .slice A7 k7 c7] 44)).heap[W.heap.size]? = some (.cells #[.int .i64 7, .int .i64 op, .int .i64 D, .int .i64 A, .int .i64 B, .int .i32 num, .string nm, .slice A7 k7 c7] 44 (0, 0)) := blk_new _ _
  generalize W.alloc (.cells #[.int .i64 7, .int .i64 op, .int .i64 D, .int .i64 A, .int .i64 B, .int .i32 num, .string nm, .slice A7 k7 c7] 44) = w1 at ht1 hx1 ⊢
  have HT1 := Aside0.mk ht1
  have HX1 := Aside0.mk hx1
  clear ht1 hx1
  go_loopg [9, 109] (k7) (fun kq v i wr => ∃ k : Nat, Aside0 (k + kq = k7) ∧ i = .int .i64 (k : Int) ∧ Aside0 ((Kd.int .i32).R 21 wr W.heap.size (fun q => q ≠ W.heap.size) v ((ixs.take k).map (get32 regs))) ∧ Aside0 (Tr nil_ W wr) ∧ Aside0 (wr.heap[W.heap.size]? = some (.cells #[.int .i64 7, .int .i64 op, .int .i64 D, .int .i64 A, .int .i64 B, .int .i32 num, .string nm, .slice A7 k7 c7] 44 (0, 0))))
  case atStart => exact ⟨0, ⟨by omega⟩, rfl, ⟨Kd.R_nil _ _ _ _ _⟩, HT1, HX1⟩
  case round =>
    obtain ⟨k, HK, rfl, HV, HTR, HXR⟩ := hrel
    obtain ⟨A9, c9, rfl⟩ := Kd.R_slice HV.out
    have hlk : ((ixs.take k).map (get32 regs)).length = k := by rw [List.length_map, List.length_take]; have := HK.out; have := HXL.out; omega
    rw [hlk] at HV ⊢
    clear hlk
    by_cases hlt : k < k7
    · cases gk with
      | zero => exact absurd HK.out (by omega)
      | succ q1 =>
        obtain ⟨ad, hA, hcell⟩ := Kd.at_int HX.out (k : Int) (by omega) (by omega)
        rw [Int.toNat_natCast] at hcell
        obtain ⟨z, hz⟩ : ∃ z, rd ixs (k : Int) = z := ⟨_, rfl⟩
        have hmem : rd ixs (k : Int) ∈ ixs := by
          have hl : k < ixs.length := by rw [HXL.out]; exact hlt
          unfold rd
          rw [Int.toNat_natCast, List.getD_eq_getElem?_getD, List.getElem?_eq_getElem hl]
          exact List.getElem_mem hl
        have hsn : ixs.take (k + 1) = ixs.take k ++ [z] := by
          have hl : k < ixs.length := by rw [HXL.out]; exact hlt
          rw [List.take_succ_eq_append_getElem hl, ← hz]
          unfold rd
          rw [Int.toNat_natCast, List.getD_eq_getElem?_getD, List.getElem?_eq_getElem hl]
          rfl
        rw [hz] at hcell hmem
        have hzb := HIX.out z hmem
        have hcr := HTR.out.cell (row32_cell HR.out z hzb.1 (by rw [HN.out]; exact hzb.2)) (fun h => h)
        have hck := HTR.out.cell hcell (fun h => h)
        obtain ⟨hz0, hz1⟩ := hzb
        have HSN := Aside0.mk hsn
        subst hA
        clear hcell hmem hz hsn
        go_wp2_with (first
          | ((with_reducible refine gate_dst (N := 119) rfl ?_)
             refine Kd.R_append (Kd.int .i32) (w0 := wr) W.heap.size rfl (.tmp 113) (.tmp 118) 26 21 (.int .i32 0) 4 rfl Try.underlying26 info21 rfl (by decide) (by decide) _ _ (get32 regs z) [.int .i32 (get32 regs z)] (fun q => q ≠ W.heap.size) (fun _ => False) rfl rfl rfl (fun _ h => h.elim) ?aF HV.out (Below.refl _ _) ?aB ?aL ?_
             case aF => intro q hq; have h_ := blk_lt HXR.out; omega
             case aB => exact HTR.out.size
             case aL => rw [List.length_map, List.length_take]; omega
             intro v9 w9 hR9 hb9 hg9 hat9
             have HG9 := Aside0.mk hg9
             have HR9 := Aside0.mk hR9
             clear hR9 hb9 hg9 hat9)
          | fail)
        go_roundg q1
        case measure => omega
        case rel => exact ⟨k + 1, ⟨by have := HK.out; omega⟩, by go_num, ⟨by rw [HSN.out, List.map_append]; exact HR9.out⟩, ⟨HTR.out.grown HG9.out (fun q hq => .inr (own_ge HV.out q (.inr hq)))⟩, ⟨blk_grown HXR.out HG9.out (fun h => HV.out.1 _ h.symm rfl)⟩⟩
    · obtain rfl : k = k7 := by have := HK.out; omega
      have e2 : wr.cell? ⟨W.heap.size, 2, none⟩ = some (.int .i64 D) := (blk_cell HXR.out 2).trans rfl
      have e6 : wr.cell? ⟨W.heap.size, 6, none⟩ = some (.string nm) := (blk_cell HXR.out 6).trans rfl
      have hrd := Kd.R_reads HV.out
      obtain ⟨A2, c2, hA2, hl2, hC2⟩ := hrd
      rw [List.length_map, List.length_take, HXL.out, Nat.min_self] at hA2 hl2 hC2
      rw [List.take_of_length_le (Nat.le_of_eq HXL.out)] at hC2
      injection hA2 with hA3 _ hc3
      subst hA3 hc3
      have HC2 := Aside0.mk hC2
      have HL2 := Aside0.mk hl2
      clear hC2 hl2
      go_wp2_with (go_at_call 24; (with_reducible refine (HE.out _ _ _ HTR.out HC2.out HL2.out).mono ?_); rintro e w9 ⟨rfl, hp⟩; have HP := Aside0.mk hp; clear hp)
      exact bodyPost_end (v := .tuple #[]) (by simp [results, Try.results26, go_sem]) rfl ⟨rfl, HP.out⟩
set_option maxHeartbeats 4000000 in
set_option maxRecDepth 100000 in
theorem ins_call_full (fp : Addr) (rb : Nat) (regs : List Int) (n : Nat) (hn : regs.length = n) (blk ins d : Int) (W : World) (mp : Value) (cb : Nat) (hc : W.heap[cb]? = some (.cells (fC fp rb n blk ins d) 70 (0, 0))) (hr : W.heap[rb]? = some (.cells (row32 regs) 21 (0, 0)))
    (op D A B num : Int) (nm : ByteArray) (A7 : Option Addr) (k7 c7 : Nat) (hk7 : k7 ≤ c7) (ixs : List Int) (hx : (Kd.int .i64).C W A7 k7 ixs) (hix : ∀ i ∈ ixs, 0 ≤ i ∧ i < n) (hk8 : k7 ≤ 8) (P : World → Prop)
    (hE : ∀ w1 A c, Tr nil_ W w1 → (Kd.int .i32).C w1 A k7 (ixs.map (get32 regs)) → k7 ≤ c → Calls Try.prog 24 #[mp, .string nm, .slice A k7 c, .int .i64 D] w1 fun e w' => e = .panicked [{ v := .iface 66 (.int .i64 4), recovered := false }] ∧ P w') :
    Calls Try.prog 26 #[mp, .pointer (some ⟨cb, 0, none⟩), .agg #[.int .i64 7, .int .i64 op, .int .i64 D, .int .i64 A, .int .i64 B, .int .i32 num, .string nm, .slice A7 k7 c7]] W fun e w' => e = .panicked [{ v := .iface 66 (.int .i64 4), recovered := false }] ∧ P w' := by
  have cc0 : W.cell? ⟨cb, 0, none⟩ = some (.pointer (some fp)) := (blk_cell hc 0).trans rfl; have fc0 := blk_frozen hc 0; have cc1 : W.cell? ⟨cb, 1, none⟩ = some (.slice (some ⟨rb, 0, none⟩) n n) := (blk_cell hc 1).trans rfl; have fc1 := blk_frozen hc 1; have cc2 : W.cell? ⟨cb, 2, none⟩ = some (.int .i64 blk) := (blk_cell hc 2).trans rfl; have fc2 := blk_frozen hc 2; have cc3 : W.cell? ⟨cb, 3, none⟩ = some (.int .i64 ins) := (blk_cell hc 3).trans rfl; have fc3 := blk_frozen hc 3; have cc4 : W.cell? ⟨cb, 4, none⟩ = some (.int .i64 d) := (blk_cell hc 4).trans rfl; have fc4 := blk_frozen hc 4
  have hltc := blk_lt hc
  have hltr := blk_lt hr
  have HR := Aside0.mk hr
  have HX := Aside0.mk hx
  have HXL := Aside0.mk hx.1
  have HIX := Aside0.mk hix
  have HE := Aside0.mk hE
  have HN := Aside0.mk hn
  clear hc hr hn hE hx hix
  go_enter Try.func26, Try.ntmps26
  go_wp2
  clear cc0 fc0 cc1 fc1 cc2 fc2 cc3 fc3 cc4 fc4
  have ht1 : Tr nil_ W (W.alloc (.cells #[.int .i64 7, .int .i64 op, .int .i64 D, .int .i64 A, .int .i64 B, .int .i32 num, .string nm, .slice A7 k7 c7] 44)) := (Tr.refl nil_ W).alloc _
  have hx1 : (W.alloc (.cells #[.int .i64 7, .int .i64 op, .int .i64 D, .int .i64 A, .int .i64 B, .int .i32 num, .string nm, .slice A7 k7 c7] 44)).heap[W.heap.size]? = some (.cells #[.int .i64 7, .int .i64 op, .int .i64 D, .int .i64 A, .int .i64 B, .int .i32 num, .string nm, .slice A7 k7 c7] 44 (0, 0)) := blk_new _ _
  generalize W.alloc (.cells #[.int .i64 7, .int .i64 op, .int .i64 D, .int .i64 A, .int .i64 B, .int .i32 num, .string nm, .slice A7 k7 c7] 44) = w1 at ht1 hx1 ⊢
  have HT1 := Aside0.mk ht1
  have HX1 := Aside0.mk hx1
  clear ht1 hx1
  go_loopg [9, 109] (k7) (fun kq v i wr => ∃ k : Nat, Aside0 (k + kq = k7) ∧ i = .int .i64 (k : Int) ∧ Aside0 ((Kd.int .i32).R 21 wr W.heap.size (fun q => q ≠ W.heap.size) v ((ixs.take k).map (get32 regs))) ∧ Aside0 (Tr nil_ W wr) ∧ Aside0 (wr.heap[W.heap.size]? = some (.cells #[.int .i64 7, .int .i64 op, .int .i64 D, .int .i64 A, .int .i64 B, .int .i32 num, .string nm, .slice A7 k7 c7] 44 (0, 0))))
  case atStart => exact ⟨0, ⟨by omega⟩, rfl, ⟨Kd.R_nil _ _ _ _ _⟩, HT1, HX1⟩
  case round =>
    obtain ⟨k, HK, rfl, HV, HTR, HXR⟩ := hrel
    obtain ⟨A9, c9, rfl⟩ := Kd.R_slice HV.out
    have hlk : ((ixs.take k).map (get32 regs)).length = k := by rw [List.length_map, List.length_take]; have := HK.out; have := HXL.out; omega
    rw [hlk] at HV ⊢
    clear hlk
    by_cases hlt : k < k7
    · cases gk with
      | zero => exact absurd HK.out (by omega)
      | succ q1 =>
        obtain ⟨ad, hA, hcell⟩ := Kd.at_int HX.out (k : Int) (by omega) (by omega)
        rw [Int.toNat_natCast] at hcell
        obtain ⟨z, hz⟩ : ∃ z, rd ixs (k : Int) = z := ⟨_, rfl⟩
        have hmem : rd ixs (k : Int) ∈ ixs := by
          have hl : k < ixs.length := by rw [HXL.out]; exact hlt
          unfold rd
          rw [Int.toNat_natCast, List.getD_eq_getElem?_getD, List.getElem?_eq_getElem hl]
          exact List.getElem_mem hl
        have hsn : ixs.take (k + 1) = ixs.take k ++ [z] := by
          have hl : k < ixs.length := by rw [HXL.out]; exact hlt
          rw [List.take_succ_eq_append_getElem hl, ← hz]
          unfold rd
          rw [Int.toNat_natCast, List.getD_eq_getElem?_getD, List.getElem?_eq_getElem hl]
          rfl
        rw [hz] at hcell hmem
        have hzb := HIX.out z hmem
        have hcr := HTR.out.cell (row32_cell HR.out z hzb.1 (by rw [HN.out]; exact hzb.2)) (fun h => h)
        have hck := HTR.out.cell hcell (fun h => h)
        obtain ⟨hz0, hz1⟩ := hzb
        have HSN := Aside0.mk hsn
        subst hA
        clear hcell hmem hz hsn
        go_wp2_with (first
          | ((with_reducible refine gate_dst (N := 119) rfl ?_)
             refine Kd.R_append (Kd.int .i32) (w0 := wr) W.heap.size rfl (.tmp 113) (.tmp 118) 26 21 (.int .i32 0) 4 rfl Try.underlying26 info21 rfl (by decide) (by decide) _ _ (get32 regs z) [.int .i32 (get32 regs z)] (fun q => q ≠ W.heap.size) (fun _ => False) rfl rfl rfl (fun _ h => h.elim) ?aF HV.out (Below.refl _ _) ?aB ?aL ?_
             case aF => intro q hq; have h_ := blk_lt HXR.out; omega
             case aB => exact HTR.out.size
             case aL => rw [List.length_map, List.length_take]; omega
             intro v9 w9 hR9 hb9 hg9 hat9
             have HG9 := Aside0.mk hg9
             have HR9 := Aside0.mk hR9
             clear hR9 hb9 hg9 hat9)
          | fail)
        go_roundg q1
        case measure => omega
        case rel => exact ⟨k + 1, ⟨by have := HK.out; omega⟩, by go_num, ⟨by rw [HSN.out, List.map_append]; exact HR9.out⟩, ⟨HTR.out.grown HG9.out (fun q hq => .inr (own_ge HV.out q (.inr hq)))⟩, ⟨blk_grown HXR.out HG9.out (fun h => HV.out.1 _ h.symm rfl)⟩⟩
    · obtain rfl : k = k7 := by have := HK.out; omega
      have e2 : wr.cell? ⟨W.heap.size, 2, none⟩ = some (.int .i64 D) := (blk_cell HXR.out 2).trans rfl
      have e6 : wr.cell? ⟨W.heap.size, 6, none⟩ = some (.string nm) := (blk_cell HXR.out 6).trans rfl
      have hrd := Kd.R_reads HV.out
      obtain ⟨A2, c2, hA2, hl2, hC2⟩ := hrd
      rw [List.length_map, List.length_take, HXL.out, Nat.min_self] at hA2 hl2 hC2
      rw [List.take_of_length_le (Nat.le_of_eq HXL.out)] at hC2
      injection hA2 with hA3 _ hc3
      subst hA3 hc3
      have HC2 := Aside0.mk hC2
      have HL2 := Aside0.mk hl2
      clear hC2 hl2
      go_wp2_with (go_at_call 24; (with_reducible refine (HE.out _ _ _ HTR.out HC2.out HL2.out).mono ?_); rintro e w9 ⟨rfl, hp⟩; have HP := Aside0.mk hp; clear hp)
      exact ⟨rfl, rfl, HP.out⟩
end Go.Proofs.Ytabkinlpbefjgaa.L

namespace Go.Proofs.Ytabkinlpbefjgaa.L
open Go.RowKit Go.Proofs.Ytabkinlpbefjgaa.X Go.Proofs.YtabkinlpbefjgaaW.PrintWords Go.Proofs.YtabkinlpbefjgaaW.PrintLast Go.Proofs.YtabkinlpbefjgaaW.PrintMore
attribute [local go_sem] max2_int min2_int max_two min_two max_three min_three max_four min_four   -- for this text's walks alone
set_option linter.unusedVariables false
set_option linter.unusedSimpArgs false
open Go.Proofs.Ytabkinlpbefjgaa.Pure
structure Gl where
  words : List (List Int)
  tr : List Int
  st : Nat
  rd : Nat
structure Fr where
  fn : Nat
  regs : List Int
  blk : Nat
  ins : Nat
  d : Int
inductive IR where
  | go (regs : List Int) (G : Gl)
  | call (args : List Int)
  | stop (e : Int)
inductive SR where
  | go (st : List Fr) (G : Gl)
  | fin (e v : Int) (G : Gl)
def fnAt (F : List S47) (n : ByteArray) : Nat := F.findIdx fun f => f.f0.toList == n.toList
def glAt (GS : List S57) (n : ByteArray) : Nat := GS.findIdx fun g => g.f0.toList == n.toList
def wordIx (GS : List S57) (x : S44) (regs : List Int) (G : Gl) : Option (Nat × Nat) :=
  if x.f3 < 0 then some (glAt GS x.f6, 0)
  else if 0 ≤ get32 regs x.f3 ∧ get32 regs x.f3 < ((G.words.getD (glAt GS x.f6) []).length : Int) then some (glAt GS x.f6, (get32 regs x.f3).toNat) else none
def insF (GS : List S57) (inp : List Int) (x : S44) (regs : List Int) (G : Gl) : IR :=
  if x.f0 = 1 then .go (put32 regs x.f2 x.f5) G
  else if x.f0 = 2 then .go (put32 regs x.f2 (get32 regs x.f3)) G
  else if x.f0 = 3 then .go (put32 regs x.f2 (unV x.f1 (get32 regs x.f3)).1) G
  else if x.f0 = 4 then (if (binV x.f1 (get32 regs x.f3) (get32 regs x.f4)).2 = true then .go (put32 regs x.f2 (binV x.f1 (get32 regs x.f3) (get32 regs x.f4)).1) G else .stop 2)
  else if x.f0 = 5 then (match wordIx GS x regs G with
    | none => .stop 3
    | some (g, i) => .go (put32 regs x.f2 ((G.words.getD g []).getD i 0)) G)
  else if x.f0 = 6 then (match wordIx GS x regs G with
    | none => .stop 3
    | some (g, i) => .go regs { G with words := G.words.set g ((G.words.getD g []).set i (get32 regs x.f4)) })
  else if x.f0 = 7 then .call (x.f7.map (get32 regs))
  else if x.f0 = 8 then (if G.rd < inp.length then .go (put32 regs x.f2 (inp.getD G.rd 0)) { G with rd := G.rd + 1 } else .go (put32 regs x.f2 0) G)
  else .go regs { G with tr := G.tr ++ [get32 regs x.f3] }
def fnOf (F : List S47) (k : Nat) : S47 := F.getD k z47
def blkOf (F : List S47) (fr : Fr) : S41 := (fnOf F fr.fn).f3.getD fr.blk z41
def newFr (F : List S47) (n : ByteArray) (args : List Int) (d : Int) : Fr := ⟨fnAt F n, args ++ List.replicate ((fnOf F (fnAt F n)).f2.toNat - args.length) 0, 0, 0, d⟩
def Gl.tick (G : Gl) : Gl := { G with st := G.st + 1 }
def Fr.jump (fr : Fr) (k : Int) : Fr := { fr with blk := k.toNat, ins := 0 }
def Fr.on (fr : Fr) (regs : List Int) : Fr := { fr with regs := regs, ins := fr.ins + 1 }
def Fr.take (p : Fr) (d v : Int) : Fr := if 0 ≤ d then { p with regs := put32 p.regs d v } else p
def leaveS (v d : Int) (G : Gl) : List Fr → SR
  | [] => .fin 1 v G
  | p :: q => .go (p.take d v :: q) G
def stepC (F : List S47) (GS : List S57) (inp : List Int) (fuel : Int) (fr : Fr) (rest : List Fr) (G : Gl) : SR :=
  if fuel ≤ (G.st : Int) then .fin 5 0 G
  else match (blkOf F fr).f0[fr.ins]? with
  | some x => (match insF GS inp x fr.regs G.tick with
    | .go regs G2 => .go (fr.on regs :: rest) G2
    | .stop e => .fin e 0 G.tick
    | .call args => if 31 ≤ rest.length then .fin 4 0 G.tick else .go (newFr F x.f6 args x.f2 :: fr.on fr.regs :: rest) G.tick)
  | none =>
    if (blkOf F fr).f1 = 1 then .go (fr.jump (blkOf F fr).f3 :: rest) G.tick
    else if (blkOf F fr).f1 = 2 then .go (fr.jump (if get32 fr.regs (blkOf F fr).f2 = 0 then (blkOf F fr).f4 else (blkOf F fr).f3) :: rest) G.tick
    else leaveS (get32 fr.regs (blkOf F fr).f2) fr.d G.tick rest
def stepS (F : List S47) (GS : List S57) (inp : List Int) (fuel : Int) : List Fr → Gl → SR
  | [], G => .fin 1 0 G
  | fr :: rest, G => stepC F GS inp fuel fr rest G
def runS (F : List S47) (GS : List S57) (inp : List Int) (fuel : Int) : Nat → SR → SR
  | 0, s => s
  | k + 1, .go st G => runS F GS inp fuel k (stepS F GS inp fuel st G)
  | _ + 1, .fin e v G => .fin e v G
def Gl.start (GS : List S57) : Gl := ⟨GS.map fun g => List.replicate (max g.f1 1).toNat 0, [], 0, 0⟩
def mainB : ByteArray := ⟨#[109, 97, 105, 110]⟩
def runT (F : List S47) (GS : List S57) (inp : List Int) (fuel : Int) : SR := runS F GS inp fuel (fuel.toNat + 1) (.go [newFr F mainB [] (-1)] (Gl.start GS))
def W32 (v : Int) : Prop := -2147483648 ≤ v ∧ v ≤ 2147483647
structure OkIns (F : List S47) (GS : List S57) (n : Int) (x : S44) : Prop where
  kind : 1 ≤ x.f0 ∧ x.f0 ≤ 9
  dst : x.f0 ≠ 6 → x.f0 ≠ 7 → x.f0 ≠ 9 → 0 ≤ x.f2 ∧ x.f2 < n
  dst7 : x.f0 = 7 → x.f2 = -1 ∨ 0 ≤ x.f2 ∧ x.f2 < n
  a : x.f0 = 2 ∨ x.f0 = 3 ∨ x.f0 = 4 ∨ x.f0 = 9 → 0 ≤ x.f3 ∧ x.f3 < n
  mem : x.f0 = 5 ∨ x.f0 = 6 → (x.f3 = -1 ∨ 0 ≤ x.f3 ∧ x.f3 < n) ∧ glAt GS x.f6 < GS.length
  b : x.f0 = 4 ∨ x.f0 = 6 → 0 ≤ x.f4 ∧ x.f4 < n
  num : W32 x.f5
  args : x.f0 = 7 → x.f7.length ≤ 8 ∧ (∀ i ∈ x.f7, 0 ≤ i ∧ i < n) ∧ fnAt F x.f6 < F.length ∧ (fnOf F (fnAt F x.f6)).f1 = (x.f7.length : Int)
structure OkBlk (F : List S47) (GS : List S57) (f : S47) (b : S41) : Prop where
  ins : ∀ x ∈ b.f0, OkIns F GS f.f2 x
  kind : b.f1 = 1 ∨ b.f1 = 2 ∨ b.f1 = 3
  to1 : b.f1 = 1 ∨ b.f1 = 2 → 0 ≤ b.f3 ∧ b.f3 < (f.f3.length : Int)
  to2 : b.f1 = 2 → 0 ≤ b.f4 ∧ b.f4 < (f.f3.length : Int)
  a : b.f1 = 2 ∨ b.f1 = 3 → 0 ≤ b.f2 ∧ b.f2 < f.f2
  few : b.f0.length ≤ 1000000000
structure OkFn (F : List S47) (GS : List S57) (f : S47) : Prop where
  blks : ∀ b ∈ f.f3, OkBlk F GS f b
  some_ : 0 < f.f3.length
  few : f.f3.length ≤ 1000000000
  params : 0 ≤ f.f1 ∧ f.f1 ≤ f.f2
  regs : f.f2 ≤ 4096
structure OkMid (F : List S47) (GS : List S57) : Prop where
  fns : ∀ f ∈ F, OkFn F GS f
  first : ∀ k, k < F.length → fnAt F (fnOf F k).f0 = k
  gfirst : ∀ k, k < GS.length → glAt GS (GS.getD k z57).f0 = k
  size : ∀ g ∈ GS, 0 ≤ g.f1 ∧ g.f1 ≤ 4096
  main : fnAt F mainB < F.length
  main0 : (fnOf F (fnAt F mainB)).f1 = 0
  few : F.length ≤ 1000 ∧ GS.length ≤ 1000
structure OkFr (F : List S47) (fr : Fr) : Prop where
  fn : fr.fn < F.length
  regs : (fr.regs.length : Int) = (fnOf F fr.fn).f2
  w32 : ∀ v ∈ fr.regs, W32 v
  blk : fr.blk < (fnOf F fr.fn).f3.length
  ins : fr.ins ≤ (blkOf F fr).f0.length
structure OkGl (GS : List S57) (G : Gl) : Prop where
  words : G.words.map List.length = GS.map fun g => (max g.f1 1).toNat
  w32 : ∀ l ∈ G.words, ∀ v ∈ l, W32 v
def OkSt (F : List S47) : List Fr → Prop
  | [] => True
  | [fr] => OkFr F fr
  | fr :: p :: q => OkFr F fr ∧ fr.d < (p.regs.length : Int) ∧ OkSt F (p :: q)
theorem W32.get {l : List Int} (h : ∀ v ∈ l, W32 v) (i : Int) : W32 (get32 l i) := by
  unfold get32
  rw [List.getD_eq_getElem?_getD]
  cases hi : l[i.toNat]? with
  | none => exact ⟨by decide, by decide⟩
  | some v => exact h v (List.mem_of_getElem? hi)
theorem W32.put {l : List Int} (h : ∀ v ∈ l, W32 v) (i v : Int) (hv : W32 v) : ∀ u ∈ put32 l i v, W32 u := by
  intro u hu
  unfold put32 at hu
  rcases List.mem_or_eq_of_mem_set hu with h1 | h1
  · exact h u h1
  · rw [h1]; exact hv
theorem W32.ite {c : Prop} [Decidable c] {a b : Int × Bool} (ha : W32 a.1) (hb : W32 b.1) : W32 (if c then a else b).1 := by split; exact ha; exact hb
theorem W32.wrap (n : Int) : W32 (wrap32 n) := wrap32_lo n
theorem W32.zero : W32 0 := ⟨by decide, by decide⟩
theorem W32.one : W32 1 := ⟨by decide, by decide⟩
theorem W32.ite1 {c : Prop} [Decidable c] {a b : Int} (ha : W32 a) (hb : W32 b) : W32 (if c then a else b) := by split; exact ha; exact hb
theorem W32.shr {a : Int} (h : W32 a) (k : Nat) : W32 (a / 2 ^ k) := by
  have hp : (1 : Int) ≤ 2 ^ k := by
    have := Nat.one_le_two_pow (n := k)
    exact_mod_cast this
  generalize (2 : Int) ^ k = p at hp
  obtain ⟨h0, h1⟩ := h
  constructor
  · rw [Int.le_ediv_iff_mul_le (by omega)]
    have := Int.mul_le_mul_of_nonneg_left hp (show (0 : Int) ≤ 2147483648 by decide)
    omega
  · rcases (show a < 0 ∨ 0 ≤ a by omega) with h2 | h2
    · have := Int.ediv_neg_of_neg_of_pos h2 (show 0 < p by omega)
      omega
    · have := Int.ediv_le_self p h2
      omega
theorem bin_bd (op a b : Int) (ha : W32 a) (hb : W32 b) : W32 (binV op a b).1 := by
  unfold binV
  rw [bits_and_nat, bits_or_nat, bits_xor_nat]
  refine .ite (.wrap _) (.ite (.wrap _) (.ite (.wrap _) (.ite (.ite .zero (.wrap _)) (.ite (.ite .zero (tmod_bd a b ha)) (.ite (.wrap _) (.ite (.shr ha _) (.ite (.wrap _) (.ite (.wrap _) (.ite (.wrap _) ?_)))))))))
  refine .ite (.ite1 .one .zero) (.ite (.ite1 .one .zero) (.ite (.ite1 .one .zero) (.ite (.ite1 .one .zero) (.ite (.ite1 .one .zero) (.ite (.ite1 .zero .one) (.ite (.ite1 .zero .one) (.ite (.ite1 .zero .one) .zero)))))))
theorem OkGl.tick {GS : List S57} {G : Gl} (h : OkGl GS G) : OkGl GS G.tick := ⟨h.words, h.w32⟩
theorem wlen {GS : List S57} {G : Gl} (h : OkGl GS G) {k : Nat} (hk : k < GS.length) : (G.words.getD k []).length = (max (GS.getD k z57).f1 1).toNat := by
  have h1 := congrArg (fun l => l[k]?) h.words
  simp only [List.getElem?_map] at h1
  rw [List.getD_eq_getElem?_getD, List.getD_eq_getElem?_getD]
  rw [List.getElem?_eq_getElem hk] at h1 ⊢
  cases hw : G.words[k]? with
  | none => rw [hw] at h1; simp at h1
  | some l => rw [hw] at h1; simpa using h1
theorem insF_ok {F : List S47} {GS : List S57} {inp : List Int} {x : S44} {regs : List Int} {G : Gl} {n : Int} (hx : OkIns F GS n x) (hr : ∀ v ∈ regs, W32 v) (hG : OkGl GS G) (hi : ∀ v ∈ inp, W32 v) {r : List Int} {G2 : Gl} (h : insF GS inp x regs G = .go r G2) :
    r.length = regs.length ∧ (∀ v ∈ r, W32 v) ∧ OkGl GS G2 := by
  unfold insF at h
  split at h
  · injection h with h1 h2; subst h1 h2; exact ⟨put32_length _ _ _, W32.put hr _ _ hx.num, hG⟩
  split at h
  · injection h with h1 h2; subst h1 h2; exact ⟨put32_length _ _ _, W32.put hr _ _ (W32.get hr _), hG⟩
  split at h
  · injection h with h1 h2; subst h1 h2; exact ⟨put32_length _ _ _, W32.put hr _ _ (un_bd _ _), hG⟩
  split at h
  · split at h
    · injection h with h1 h2; subst h1 h2; exact ⟨put32_length _ _ _, W32.put hr _ _ (bin_bd _ _ _ (W32.get hr _) (W32.get hr _)), hG⟩
    · cases h
  split at h
  · split at h
    · cases h
    · injection h with h1 h2; subst h1 h2
      refine ⟨put32_length _ _ _, W32.put hr _ _ ?_, hG⟩
      rename_i g i _
      have hl : ∀ v ∈ G.words.getD g [], W32 v := by
        rw [List.getD_eq_getElem?_getD]
        cases hw : G.words[g]? with
        | none => intro v hv; cases hv
        | some l => exact hG.w32 l (List.mem_of_getElem? hw)
      exact W32.get hl (i : Int)
  split at h
  · split at h
    · cases h
    · injection h with h1 h2; subst h1 h2
      rename_i g i _
      refine ⟨rfl, hr, ?_, ?_⟩
      · rw [← hG.words]
        simp only [List.map_set, List.length_set]
        apply List.ext_getElem?
        intro q
        rw [List.getElem?_set]
        split
        · rename_i hq
          subst hq
          split
          · rename_i hq2
            rw [List.length_map] at hq2
            rw [List.getElem?_map, List.getD_eq_getElem?_getD, List.getElem?_eq_getElem hq2]; rfl
          · rename_i hq2
            rw [List.length_map] at hq2
            rw [List.getElem?_map, List.getElem?_eq_none (by omega)]; rfl
        · rfl
      · intro l hl
        rcases List.mem_or_eq_of_mem_set hl with h1 | h1
        · exact hG.w32 l h1
        · rw [h1]
          have hl : ∀ v ∈ G.words.getD g [], W32 v := by
            rw [List.getD_eq_getElem?_getD]
            cases hw : G.words[g]? with
            | none => intro v hv; cases hv
            | some l => exact hG.w32 l (List.mem_of_getElem? hw)
          exact W32.put hl (i : Int) _ (W32.get hr _)
  split at h
  · cases h
  split at h
  · split at h
    · injection h with h1 h2; subst h1 h2
      exact ⟨put32_length _ _ _, W32.put hr _ _ (by have h3 := W32.get hi (G.rd : Int); unfold get32 at h3; rwa [Int.toNat_natCast] at h3), ⟨hG.words, hG.w32⟩⟩
    · injection h with h1 h2; subst h1 h2; exact ⟨put32_length _ _ _, W32.put hr _ _ .zero, hG⟩
  · injection h with h1 h2; subst h1 h2; exact ⟨rfl, hr, ⟨hG.words, hG.w32⟩⟩
theorem insF_call {GS : List S57} {inp : List Int} {x : S44} {regs : List Int} {G : Gl} {args : List Int} (h : insF GS inp x regs G = .call args) : x.f0 = 7 ∧ args = x.f7.map (get32 regs) := by
  unfold insF at h
  split at h
  · cases h
  split at h
  · cases h
  split at h
  · cases h
  split at h
  · split at h <;> cases h
  split at h
  · split at h <;> cases h
  split at h
  · split at h <;> cases h
  split at h
  · rename_i h7
    injection h with h1
    exact ⟨h7, h1.symm⟩
  split at h
  · split at h <;> cases h
  · cases h
theorem fnOf_mem {F : List S47} {k : Nat} (h : k < F.length) : fnOf F k ∈ F := by
  unfold fnOf
  rw [List.getD_eq_getElem?_getD, List.getElem?_eq_getElem h]
  exact List.getElem_mem h
theorem blkOf_mem {F : List S47} {fr : Fr} (h : fr.blk < (fnOf F fr.fn).f3.length) : blkOf F fr ∈ (fnOf F fr.fn).f3 := by
  unfold blkOf
  rw [List.getD_eq_getElem?_getD, List.getElem?_eq_getElem h]
  exact List.getElem_mem h
theorem OkFr.okBlk {F : List S47} {GS : List S57} {fr : Fr} (h : OkFr F fr) (hM : OkMid F GS) : OkBlk F GS (fnOf F fr.fn) (blkOf F fr) := (hM.fns _ (fnOf_mem h.fn)).blks _ (blkOf_mem h.blk)
theorem newFr_ok {F : List S47} {GS : List S57} (hM : OkMid F GS) (n : ByteArray) (args : List Int) (d : Int) (hn : fnAt F n < F.length) (ha : ∀ v ∈ args, W32 v) (hl : (fnOf F (fnAt F n)).f1 = (args.length : Int)) : OkFr F (newFr F n args d) := by
  have hf := hM.fns _ (fnOf_mem hn)
  have hp := hf.params
  refine ⟨hn, ?_, ?_, hf.some_, Nat.zero_le _⟩
  · show ((args ++ List.replicate _ 0).length : Int) = _
    rw [List.length_append, List.length_replicate]
    show _ = (fnOf F (fnAt F n)).f2
    omega
  · intro v hv
    rcases List.mem_append.1 hv with h1 | h1
    · exact ha v h1
    · rw [(List.mem_replicate.1 h1).2]; exact .zero
theorem OkSt.tail {F : List S47} {fr : Fr} {q : List Fr} (h : OkSt F (fr :: q)) : OkSt F q := by
  cases q with
  | nil => trivial
  | cons p q => exact h.2.2
theorem OkSt.head {F : List S47} {fr : Fr} {q : List Fr} (h : OkSt F (fr :: q)) : OkFr F fr := by
  cases q with
  | nil => exact h
  | cons p q => exact h.1
theorem OkSt.set {F : List S47} {fr fr' : Fr} {q : List Fr} (h : OkSt F (fr :: q)) (h2 : OkFr F fr') (hd : fr'.d = fr.d) : OkSt F (fr' :: q) := by
  cases q with
  | nil => exact h2
  | cons p q => exact ⟨h2, by rw [hd]; exact h.2.1, h.2.2⟩
theorem step_ok {F : List S47} {GS : List S57} {inp : List Int} {fuel : Int} {st : List Fr} {G : Gl} (hM : OkMid F GS) (hi : ∀ v ∈ inp, W32 v) (hS : OkSt F st) (hG : OkGl GS G) (hlen : st.length ≤ 32) {st2 : List Fr} {G2 : Gl} (h : stepS F GS inp fuel st G = .go st2 G2) :
    OkSt F st2 ∧ OkGl GS G2 ∧ st2 ≠ [] ∧ st2.length ≤ 32 := by
  cases st with
  | nil => cases h
  | cons fr rest =>
    have hF := hS.head
    have hB := hF.okBlk hM
    have h : stepC F GS inp fuel fr rest G = .go st2 G2 := h
    unfold stepC at h
    split at h
    · cases h
    split at h
    · rename_i x hx
      have hxm : x ∈ (blkOf F fr).f0 := List.mem_of_getElem? hx
      have hX := hB.ins x hxm
      have hil : fr.ins + 1 ≤ (blkOf F fr).f0.length := by have := (List.getElem?_eq_some_iff.1 hx).1; omega
      split at h
      · rename_i r G3 hins
        injection h with h1 h2
        subst h1 h2
        obtain ⟨hl, hw, hg⟩ := insF_ok hX hF.w32 hG.tick hi hins
        exact ⟨hS.set ⟨hF.fn, by show (r.length : Int) = _; rw [hl]; exact hF.regs, hw, hF.blk, hil⟩ rfl, hg, by simp, hlen⟩
      · cases h
      · rename_i args hins
        obtain ⟨h7, ha⟩ := insF_call hins
        split at h
        · cases h
        · rename_i hdeep
          injection h with h1 h2
          subst h1 h2
          obtain ⟨_, _, hfa, hpl⟩ := hX.args h7
          have hn := newFr_ok hM x.f6 args x.f2 hfa (by rw [ha]; intro v hv; obtain ⟨i, _, rfl⟩ := List.mem_map.1 hv; exact W32.get hF.w32 i) (by rw [ha, List.length_map]; exact hpl)
          have hon : OkFr F (fr.on fr.regs) := ⟨hF.fn, hF.regs, hF.w32, hF.blk, hil⟩
          refine ⟨⟨hn, ?_, hS.set hon rfl⟩, hG.tick, by simp, by simp only [List.length_cons] at hlen ⊢; omega⟩
          show x.f2 < (fr.regs.length : Int)
          rw [hF.regs]
          have hr0 : 0 ≤ (fnOf F fr.fn).f2 := by rw [← hF.regs]; omega
          rcases hX.dst7 h7 with h8 | h8
          · omega
          · exact h8.2
    · split at h
      · rename_i h1
        injection h with e1 e2
        subst e1 e2
        have ht := hB.to1 (.inl h1)
        exact ⟨hS.set ⟨hF.fn, hF.regs, hF.w32, by show (blkOf F fr).f3.toNat < (fnOf F fr.fn).f3.length; omega, Nat.zero_le _⟩ rfl, hG.tick, by simp, hlen⟩
      split at h
      · rename_i h2
        injection h with e1 e2
        subst e1 e2
        have ht := hB.to1 (.inr h2)
        have ht2 := hB.to2 h2
        exact ⟨hS.set ⟨hF.fn, hF.regs, hF.w32, by show (if get32 fr.regs (blkOf F fr).f2 = 0 then (blkOf F fr).f4 else (blkOf F fr).f3).toNat < (fnOf F fr.fn).f3.length; split <;> omega, Nat.zero_le _⟩ rfl, hG.tick, by simp, hlen⟩
      · cases rest with
        | nil => cases h
        | cons p q =>
          injection h with e1 e2
          subst e1 e2
          have hp := hS.tail.head
          have hpk : OkFr F (p.take fr.d (get32 fr.regs (blkOf F fr).f2)) ∧ (p.take fr.d (get32 fr.regs (blkOf F fr).f2)).d = p.d := by
            unfold Fr.take
            split
            · exact ⟨⟨hp.fn, by show ((put32 p.regs fr.d _).length : Int) = _; rw [put32_length]; exact hp.regs, W32.put hp.w32 _ _ (W32.get hF.w32 _), hp.blk, hp.ins⟩, rfl⟩
            · exact ⟨hp, rfl⟩
          exact ⟨hS.tail.set hpk.1 hpk.2, hG.tick, by simp, by simp only [List.length_cons] at hlen ⊢; omega⟩
end Go.Proofs.Ytabkinlpbefjgaa.L

