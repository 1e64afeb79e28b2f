/- Texts of this seat that a claim bears, put together by this session's own program shake.py: TrRd. -/
import Derived.Test.YtabkinlpbefjgaaKps
import Derived.Test.YtabkinlpbefjgaaKd18
namespace Go.Proofs.Ytabkinlpbefjgaa.L
open Go.RowKit Go.Proofs.Ytabkinlpbefjgaa.X Go.Proofs.YtabkinlpbefjgaaW.PrintWords Go.Proofs.YtabkinlpbefjgaaW.PrintLast Go.Proofs.YtabkinlpbefjgaaW.PrintMore
attribute [local go_sem] max2_int min2_int max_two min_two max_three min_three max_four min_four   -- for this text's walks alone
set_option linter.unusedVariables false
set_option linter.unusedSimpArgs false
open Go.Proofs.Ytabkinlpbefjgaa.Pure
set_option maxHeartbeats 4000000 in
set_option maxRecDepth 100000 in
theorem rins_num (rb : Nat) (regs : List Int) (n : Nat) (hn : regs.length = n) (W : World) (g : Nat) (hr : W.heap[rb]? = some (.cells (row32 regs) 21 (0, 0)))
    (op D A B num : Int) (nm : ByteArray) (av : Value) (hav : av.oneCell' = true) (hD0 : 0 ≤ D) (hD1 : D < n) :
    Calls Try.prog 29 #[.pointer (some ⟨g, 0, none⟩), .slice (some ⟨rb, 0, none⟩) n n, .agg #[.int .i64 1, .int .i64 op, .int .i64 D, .int .i64 A, .int .i64 B, .int .i32 num, .string nm, av]] W fun e w' => e = .returned (.tuple #[]) ∧ Turned W w' rb (row32 (put32 regs D num)) 21 := by
  have hltr := blk_lt hr
  have HR := Aside0.mk hr
  have cd := row32_cell hr D hD0 (by omega)
  have fcd := row32_frozen hr D
  obtain ⟨z, hz⟩ : ∃ z, get32 regs D = z := ⟨_, rfl⟩
  rw [hz] at cd
  clear hr hn hz
  go_enter Try.func29, Try.ntmps29
  go_wp2
  refine bodyPost_end (v := .tuple #[]) (by simp [results, Try.results29, go_sem]) rfl ⟨rfl, ?_, ?_⟩
  · exact (show _ from blk_alloc (row32_put HR.out D num) _)
  · exact ((Tr.refl (one rb) W).set (S := one rb) (.inl (one_self rb)) _).alloc _
set_option maxHeartbeats 4000000 in
set_option maxRecDepth 100000 in
theorem rins_copy (rb : Nat) (regs : List Int) (n : Nat) (hn : regs.length = n) (W : World) (g : Nat) (hr : W.heap[rb]? = some (.cells (row32 regs) 21 (0, 0)))
    (op D A B num : Int) (nm : ByteArray) (av : Value) (hav : av.oneCell' = true) (hD0 : 0 ≤ D) (hD1 : D < n) (hA0 : 0 ≤ A) (hA1 : A < n) :
    Calls Try.prog 29 #[.pointer (some ⟨g, 0, none⟩), .slice (some ⟨rb, 0, none⟩) n n, .agg #[.int .i64 2, .int .i64 op, .int .i64 D, .int .i64 A, .int .i64 B, .int .i32 num, .string nm, av]] W fun e w' => e = .returned (.tuple #[]) ∧ Turned W w' rb (row32 (put32 regs D (get32 regs A))) 21 := by
  have hltr := blk_lt hr
  have HR := Aside0.mk hr
  have cd := row32_cell hr D hD0 (by omega)
  have fcd := row32_frozen hr D
  have ca := row32_cell hr A hA0 (by omega)
  have fca := row32_frozen hr A
  obtain ⟨v, hv⟩ : ∃ v, get32 regs A = v := ⟨_, rfl⟩
  rw [hv] at ca ⊢
  have HCD := Aside0.mk cd
  have HCA := Aside0.mk ca
  clear hr hn hv cd ca fcd fca
  go_enter Try.func29, Try.ntmps29
  go_wp2
  have ht1 : Tr nil_ W (W.alloc (.cells #[.int .i64 2, .int .i64 op, .int .i64 D, .int .i64 A, .int .i64 B, .int .i32 num, .string nm, av] 44)) := (Tr.refl nil_ W).alloc _
  have hx1 : (W.alloc (.cells #[.int .i64 2, .int .i64 op, .int .i64 D, .int .i64 A, .int .i64 B, .int .i32 num, .string nm, av] 44)).heap[W.heap.size]? = some (.cells #[.int .i64 2, .int .i64 op, .int .i64 D, .int .i64 A, .int .i64 B, .int .i32 num, .string nm, av] 44 (0, 0)) := blk_new _ _
  generalize W.alloc (.cells #[.int .i64 2, .int .i64 op, .int .i64 D, .int .i64 A, .int .i64 B, .int .i32 num, .string nm, av] 44) = w1 at ht1 hx1 ⊢
  have ed := ht1.cell HCD.out (fun h => h)
  have ea := ht1.cell HCA.out (fun h => h)
  have hr1 := ht1.blk HR.out (fun h => h)
  have fd := row32_frozen hr1 D
  have e2 : w1.cell? ⟨W.heap.size, 2, none⟩ = some (.int .i64 D) := (blk_cell hx1 2).trans rfl
  have e3 : w1.cell? ⟨W.heap.size, 3, none⟩ = some (.int .i64 A) := (blk_cell hx1 3).trans rfl
  have HT1 := Aside0.mk ht1
  have HR1 := Aside0.mk hr1
  clear ht1 hx1 hr1
  go_still_tail 9, (by kernel_rfl)
  go_wp2
  refine bodyPost_end (v := .tuple #[]) (by simp [results, Try.results29, go_sem]) rfl ⟨rfl, ?_, ?_⟩
  · exact blk_drew (row32_put HR1.out D v)
  · exact ((HT1.out.mono (fun q hq => hq.elim)).set (S := one rb) (.inl (one_self rb)) _).drew
set_option maxHeartbeats 4000000 in
set_option maxRecDepth 100000 in
theorem rins_un (rb : Nat) (regs : List Int) (n : Nat) (hn : regs.length = n) (W : World) (g : Nat) (hr : W.heap[rb]? = some (.cells (row32 regs) 21 (0, 0)))
    (op D A B num : Int) (nm : ByteArray) (av : Value) (hav : av.oneCell' = true) (hD0 : 0 ≤ D) (hD1 : D < n) (hA0 : 0 ≤ A) (hA1 : A < n) (hw : -2147483648 ≤ get32 regs A ∧ get32 regs A ≤ 2147483647) :
    Calls Try.prog 29 #[.pointer (some ⟨g, 0, none⟩), .slice (some ⟨rb, 0, none⟩) n n, .agg #[.int .i64 3, .int .i64 op, .int .i64 D, .int .i64 A, .int .i64 B, .int .i32 num, .string nm, av]] W fun e w' => e = .returned (.tuple #[]) ∧ Turned W w' rb (row32 (put32 regs D (unV op (get32 regs A)).1)) 21 := by
  have hltr := blk_lt hr
  have HR := Aside0.mk hr
  have cd := row32_cell hr D hD0 (by omega)
  have fcd := row32_frozen hr D
  have ca := row32_cell hr A hA0 (by omega)
  have fca := row32_frozen hr A
  obtain ⟨v, hv⟩ : ∃ v, get32 regs A = v := ⟨_, rfl⟩
  rw [hv] at ca hw ⊢
  obtain ⟨r1, r2, hun⟩ : ∃ r1 r2, unV op v = (r1, r2) := ⟨_, _, rfl⟩
  rw [hun]
  have HU : Aside0 (brazierref01_Un.f op v = some (r1, r2)) := ⟨by rw [refun_is op v hw, hun]⟩
  have HCD := Aside0.mk cd
  have HCA := Aside0.mk ca
  clear hr hn hv cd ca fcd fca hun hw
  go_enter Try.func29, Try.ntmps29
  go_wp2
  have ht1 : Tr nil_ W (W.alloc (.cells #[.int .i64 3, .int .i64 op, .int .i64 D, .int .i64 A, .int .i64 B, .int .i32 num, .string nm, av] 44)) := (Tr.refl nil_ W).alloc _
  have hx1 : (W.alloc (.cells #[.int .i64 3, .int .i64 op, .int .i64 D, .int .i64 A, .int .i64 B, .int .i32 num, .string nm, av] 44)).heap[W.heap.size]? = some (.cells #[.int .i64 3, .int .i64 op, .int .i64 D, .int .i64 A, .int .i64 B, .int .i32 num, .string nm, av] 44 (0, 0)) := blk_new _ _
  generalize W.alloc (.cells #[.int .i64 3, .int .i64 op, .int .i64 D, .int .i64 A, .int .i64 B, .int .i32 num, .string nm, av] 44) = w1 at ht1 hx1 ⊢
  have ed := ht1.cell HCD.out (fun h => h)
  have ea := ht1.cell HCA.out (fun h => h)
  have hr1 := ht1.blk HR.out (fun h => h)
  have fd := row32_frozen hr1 D
  have e1 : w1.cell? ⟨W.heap.size, 1, none⟩ = some (.int .i64 op) := (blk_cell hx1 1).trans rfl
  have e2 : w1.cell? ⟨W.heap.size, 2, none⟩ = some (.int .i64 D) := (blk_cell hx1 2).trans rfl
  have e3 : w1.cell? ⟨W.heap.size, 3, none⟩ = some (.int .i64 A) := (blk_cell hx1 3).trans rfl
  have HT1 := Aside0.mk ht1
  have HR1 := Aside0.mk hr1
  clear ht1 hx1 hr1
  refine start_ (n := 13) (S := fun w_ => w_.cell? ⟨W.heap.size, 1, none⟩ = some (.int .i64 op) ∧ w_.cell? ⟨W.heap.size, 2, none⟩ = some (.int .i64 D) ∧ w_.cell? ⟨W.heap.size, 3, none⟩ = some (.int .i64 A) ∧ w_.cell? ⟨rb, A.toNat, none⟩ = some (.int .i32 v) ∧ Aside0 (∃ k, w_ = w1.drewN k)) (ds := []) #[false, false, false, false, false, false, false, false, false, false, false, false, false] (by kernel_rfl) rfl rfl ⟨e1, e2, e3, ea, ⟨⟨1, rfl⟩⟩⟩ (fun hHeld => ?_)
  refine pure_ (i := 0) (N := some 44) (v := ?_) (a' := ?_) #[true, false, false, false, false, false, false, false, false, false, false, false, false] rfl rfl (by kernel_rfl) (fun _ _ _ h => h) (Or.inl ⟨by rfl, ?_⟩) ?_ ?_
  rotate_left
  · intro w'
    go_simp
    with_reducible rfl
  rotate_left
  · simp only [ps_]
    rfl
  refine take_ (i := 1) (N := some 45) (v := ?_) (a' := ?_) #[true, true, false, false, false, false, false, false, false, false, false, false, false] rfl rfl (by kernel_rfl) (fun _ _ _ h => h) (Or.inl ⟨by rfl, ?_⟩) hHeld ?_ ?_
  rotate_left
  · rintro w' ⟨hs1_, hs2_, hs3_, hs4_, hs5_⟩
    go_simp
    with_reducible rfl
  rotate_left
  · simp only [ps_]
    rfl
  refine pure_ (i := 2) (N := some 46) (v := ?_) (a' := ?_) #[true, true, true, false, false, false, false, false, false, false, false, false, false] rfl rfl (by kernel_rfl) (fun _ _ _ h => h) (Or.inl ⟨by rfl, ?_⟩) ?_ ?_
  rotate_left
  · intro w'
    go_simp
    with_reducible rfl
  rotate_left
  · simp only [ps_]
    rfl
  refine pure_ (i := 3) (N := some 47) (v := ?_) (a' := ?_) #[true, true, true, true, false, false, false, false, false, false, false, false, false] rfl rfl (by kernel_rfl) (fun _ _ _ h => h) (Or.inl ⟨by rfl, ?_⟩) ?_ ?_
  rotate_left
  · intro w'
    go_simp
    with_reducible rfl
  rotate_left
  · simp only [ps_]
    rfl
  refine take_ (i := 4) (N := some 48) (v := ?_) (a' := ?_) #[true, true, true, true, true, false, false, false, false, false, false, false, false] rfl rfl (by kernel_rfl) (fun _ _ _ h => h) (Or.inl ⟨by rfl, ?_⟩) hHeld ?_ ?_
  rotate_left
  · rintro w' ⟨hs1_, hs2_, hs3_, hs4_, hs5_⟩
    go_simp
    with_reducible rfl
  rotate_left
  · simp only [ps_]
    rfl
  refine pure_ (i := 5) (N := some 49) (v := ?_) (a' := ?_) #[true, true, true, true, true, true, false, false, false, false, false, false, false] rfl rfl (by kernel_rfl) (fun _ _ _ h => h) (Or.inl ⟨by rfl, ?_⟩) ?_ ?_
  rotate_left
  · intro w'
    go_simp
    with_reducible rfl
  rotate_left
  · simp only [ps_]
    rfl
  refine take_ (i := 6) (N := some 50) (v := ?_) (a' := ?_) #[true, true, true, true, true, true, true, false, false, false, false, false, false] rfl rfl (by kernel_rfl) (fun _ _ _ h => h) (Or.inl ⟨by rfl, ?_⟩) hHeld ?_ ?_
  rotate_left
  · rintro w' ⟨hs1_, hs2_, hs3_, hs4_, hs5_⟩
    go_simp
    with_reducible rfl
  rotate_left
  · simp only [ps_]
    rfl
  refine one_ (i := 7) (N := some 51) #[true, true, true, true, true, true, true, true, false, false, false, false, false] rfl rfl (by kernel_rfl) (by decide) (fun K hK => ?_)
  refine goes_ Try.func40 (by kernel_rfl) rfl #[.int .i64 op, .int .i32 v] (by rfl) rfl rfl (by first | rfl | (simp only [List.map_toArray, List.map_cons, List.map_nil]; done) | (simp only [List.map_toArray, List.map_cons, List.map_nil]; rfl)) ?_
  refine (brazierref01_Un.calls _ _ _ _ _ HU.out).mono ?_
  rintro e_ w9 ⟨rfl, ⟨k9, rfl⟩⟩
  refine ⟨_, rfl, ?_⟩
  refine hK.out _ _ ⟨hHeld.1, hHeld.2.1, hHeld.2.2.1, hHeld.2.2.2.1, ⟨by obtain ⟨k8, h8⟩ := hHeld.2.2.2.2.out; exact ⟨k8 + k9, by rw [h8, World.drewN_drewN]⟩⟩⟩ (fun hHeld => ?_)
  clear hK K
  refine norm_ (a' := ?_) ?_ ?_
  rotate_left
  · show Act.put _ (some 51) _ = _
    simp only [ps_]
    rfl
  refine pure_ (i := 8) (N := some 43) (v := ?_) (a' := ?_) #[true, true, true, true, true, true, true, true, true, false, false, false, false] rfl rfl (by kernel_rfl) (fun _ _ _ h => h) (Or.inl ⟨by rfl, ?_⟩) ?_ ?_
  rotate_left
  · intro w'
    go_simp
    with_reducible rfl
  rotate_left
  · simp only [ps_]
    rfl
  refine pure_ (i := 9) (N := some 52) (v := ?_) (a' := ?_) #[true, true, true, true, true, true, true, true, true, true, false, false, false] rfl rfl (by kernel_rfl) (fun _ _ _ h => h) (Or.inl ⟨by rfl, ?_⟩) ?_ ?_
  rotate_left
  · intro w'
    go_simp
    with_reducible rfl
  rotate_left
  · simp only [ps_]
    rfl
  refine pure_ (i := 10) (N := some 53) (v := ?_) (a' := ?_) #[true, true, true, true, true, true, true, true, true, true, true, false, false] rfl rfl (by kernel_rfl) (fun _ _ _ h => h) (Or.inl ⟨by rfl, ?_⟩) ?_ ?_
  rotate_left
  · intro w'
    go_simp
    with_reducible rfl
  rotate_left
  · simp only [ps_]
    rfl
  refine pure_ (i := 11) (N := some 6) (v := ?_) (a' := ?_) #[true, true, true, true, true, true, true, true, true, true, true, true, false] rfl rfl (by kernel_rfl) (fun _ _ _ h => h) (Or.inl ⟨by rfl, ?_⟩) ?_ ?_
  rotate_left
  · intro w'
    go_simp
    with_reducible rfl
  rotate_left
  · simp only [ps_]
    rfl
  refine pure_ (i := 12) (N := some 7) (v := ?_) (a' := ?_) #[true, true, true, true, true, true, true, true, true, true, true, true, true] rfl rfl (by kernel_rfl) (fun _ _ _ h => h) (Or.inl ⟨by rfl, ?_⟩) ?_ ?_
  rotate_left
  · intro w'
    go_simp
    with_reducible rfl
  rotate_left
  · simp only [ps_]
    rfl
  refine done_ (by kernel_rfl) ?_
  go_wp2
  refine bodyPost_end (v := .tuple #[]) (by simp [results, Try.results29, go_sem]) rfl ⟨rfl, ?_, ?_⟩
  · exact row32_put (blk_drewN HR1.out _) D r1
  · exact ((HT1.out.mono (fun q hq => hq.elim)).drewN _).set (S := one rb) (.inl (one_self rb)) _
set_option maxHeartbeats 4000000 in
set_option maxRecDepth 100000 in
theorem rins_bin (rb : Nat) (regs : List Int) (n : Nat) (hn : regs.length = n) (W : World) (g : Nat) (hr : W.heap[rb]? = some (.cells (row32 regs) 21 (0, 0)))
    (op D A B num : Int) (nm : ByteArray) (av : Value) (hav : av.oneCell' = true) (hD0 : 0 ≤ D) (hD1 : D < n) (hA0 : 0 ≤ A) (hA1 : A < n) (hB0 : 0 ≤ B) (hB1 : B < n) (hw : -2147483648 ≤ get32 regs A ∧ get32 regs A ≤ 2147483647) (hw2 : -2147483648 ≤ get32 regs B ∧ get32 regs B ≤ 2147483647) (hok : (binV op (get32 regs A) (get32 regs B)).2 = true) :
    Calls Try.prog 29 #[.pointer (some ⟨g, 0, none⟩), .slice (some ⟨rb, 0, none⟩) n n, .agg #[.int .i64 4, .int .i64 op, .int .i64 D, .int .i64 A, .int .i64 B, .int .i32 num, .string nm, av]] W fun e w' => e = .returned (.tuple #[]) ∧ Turned W w' rb (row32 (put32 regs D (binV op (get32 regs A) (get32 regs B)).1)) 21 := by
  have hltr := blk_lt hr
  have HR := Aside0.mk hr
  have cd := row32_cell hr D hD0 (by omega)
  have fcd := row32_frozen hr D
  have ca := row32_cell hr A hA0 (by omega)
  have fca := row32_frozen hr A
  have cu := row32_cell hr B hB0 (by omega)
  have fcu := row32_frozen hr B
  obtain ⟨v, hv⟩ : ∃ v, get32 regs A = v := ⟨_, rfl⟩
  obtain ⟨u, hu⟩ : ∃ u, get32 regs B = u := ⟨_, rfl⟩
  rw [hv] at ca hw hok ⊢
  rw [hu] at cu hw2 hok ⊢
  obtain ⟨r1, r2, hun⟩ : ∃ r1 r2, binV op v u = (r1, r2) := ⟨_, _, rfl⟩
  rw [hun] at hok ⊢
  obtain rfl : r2 = true := hok
  have HU : Aside0 (brazierref01_Bin.f 70 op v u = some (r1, true)) := ⟨by rw [refbin_is 70 (by decide) op v u hw hw2, hun]⟩
  have HCD := Aside0.mk cd
  have HCA := Aside0.mk ca
  have HCU := Aside0.mk cu
  clear hr hn hv hu cd ca cu fcd fca fcu hun hw hw2
  go_enter Try.func29, Try.ntmps29
  go_wp2
  have ht1 : Tr nil_ W (W.alloc (.cells #[.int .i64 4, .int .i64 op, .int .i64 D, .int .i64 A, .int .i64 B, .int .i32 num, .string nm, av] 44)) := (Tr.refl nil_ W).alloc _
  have hx1 : (W.alloc (.cells #[.int .i64 4, .int .i64 op, .int .i64 D, .int .i64 A, .int .i64 B, .int .i32 num, .string nm, av] 44)).heap[W.heap.size]? = some (.cells #[.int .i64 4, .int .i64 op, .int .i64 D, .int .i64 A, .int .i64 B, .int .i32 num, .string nm, av] 44 (0, 0)) := blk_new _ _
  generalize W.alloc (.cells #[.int .i64 4, .int .i64 op, .int .i64 D, .int .i64 A, .int .i64 B, .int .i32 num, .string nm, av] 44) = w1 at ht1 hx1 ⊢
  have ed := ht1.cell HCD.out (fun h => h)
  have ea := ht1.cell HCA.out (fun h => h)
  have eu := ht1.cell HCU.out (fun h => h)
  have hr1 := ht1.blk HR.out (fun h => h)
  have fd := row32_frozen hr1 D
  have e1 : w1.cell? ⟨W.heap.size, 1, none⟩ = some (.int .i64 op) := (blk_cell hx1 1).trans rfl
  have e2 : w1.cell? ⟨W.heap.size, 2, none⟩ = some (.int .i64 D) := (blk_cell hx1 2).trans rfl
  have e3 : w1.cell? ⟨W.heap.size, 3, none⟩ = some (.int .i64 A) := (blk_cell hx1 3).trans rfl
  have e4 : w1.cell? ⟨W.heap.size, 4, none⟩ = some (.int .i64 B) := (blk_cell hx1 4).trans rfl
  have HT1 := Aside0.mk ht1
  have HR1 := Aside0.mk hr1
  clear ht1 hx1 hr1
  refine start_ (n := 18) (S := fun w_ => w_.cell? ⟨W.heap.size, 1, none⟩ = some (.int .i64 op) ∧ w_.cell? ⟨W.heap.size, 3, none⟩ = some (.int .i64 A) ∧ w_.cell? ⟨W.heap.size, 4, none⟩ = some (.int .i64 B) ∧ w_.cell? ⟨rb, A.toNat, none⟩ = some (.int .i32 v) ∧ w_.cell? ⟨rb, B.toNat, none⟩ = some (.int .i32 u) ∧ Aside0 (∃ k, w_ = w1.drewN k)) (ds := []) #[false, false, false, false, false, false, false, false, false, false, false, false, false, false, false, false, false, false] (by kernel_rfl) rfl rfl ⟨e1, e3, e4, ea, eu, ⟨⟨1, rfl⟩⟩⟩ (fun hHeld => ?_)
  refine pure_ (i := 0) (N := some 62) (v := ?_) (a' := ?_) #[true, false, false, false, false, false, false, false, false, false, false, false, false, false, false, false, false, false] rfl rfl (by kernel_rfl) (fun _ _ _ h => h) (Or.inl ⟨by rfl, ?_⟩) ?_ ?_
  rotate_left
  · intro w'
    go_simp
    with_reducible rfl
  rotate_left
  · simp only [ps_]
    rfl
  refine take_ (i := 1) (N := some 63) (v := ?_) (a' := ?_) #[true, true, false, false, false, false, false, false, false, false, false, false, false, false, false, false, false, false] rfl rfl (by kernel_rfl) (fun _ _ _ h => h) (Or.inl ⟨by rfl, ?_⟩) hHeld ?_ ?_
  rotate_left
  · rintro w' ⟨hs1_, hs2_, hs3_, hs4_, hs5_, hs6_⟩
    go_simp
    with_reducible rfl
  rotate_left
  · simp only [ps_]
    rfl
  refine pure_ (i := 2) (N := some 64) (v := ?_) (a' := ?_) #[true, true, true, false, false, false, false, false, false, false, false, false, false, false, false, false, false, false] rfl rfl (by kernel_rfl) (fun _ _ _ h => h) (Or.inl ⟨by rfl, ?_⟩) ?_ ?_
  rotate_left
  · intro w'
    go_simp
    with_reducible rfl
  rotate_left
  · simp only [ps_]
    rfl
  refine pure_ (i := 3) (N := some 65) (v := ?_) (a' := ?_) #[true, true, true, true, false, false, false, false, false, false, false, false, false, false, false, false, false, false] rfl rfl (by kernel_rfl) (fun _ _ _ h => h) (Or.inl ⟨by rfl, ?_⟩) ?_ ?_
  rotate_left
  · intro w'
    go_simp
    with_reducible rfl
  rotate_left
  · simp only [ps_]
    rfl
  refine take_ (i := 4) (N := some 66) (v := ?_) (a' := ?_) #[true, true, true, true, true, false, false, false, false, false, false, false, false, false, false, false, false, false] rfl rfl (by kernel_rfl) (fun _ _ _ h => h) (Or.inl ⟨by rfl, ?_⟩) hHeld ?_ ?_
  rotate_left
  · rintro w' ⟨hs1_, hs2_, hs3_, hs4_, hs5_, hs6_⟩
    go_simp
    with_reducible rfl
  rotate_left
  · simp only [ps_]
    rfl
  refine pure_ (i := 5) (N := some 67) (v := ?_) (a' := ?_) #[true, true, true, true, true, true, false, false, false, false, false, false, false, false, false, false, false, false] rfl rfl (by kernel_rfl) (fun _ _ _ h => h) (Or.inl ⟨by rfl, ?_⟩) ?_ ?_
  rotate_left
  · intro w'
    go_simp
    with_reducible rfl
  rotate_left
  · simp only [ps_]
    rfl
  refine take_ (i := 6) (N := some 68) (v := ?_) (a' := ?_) #[true, true, true, true, true, true, true, false, false, false, false, false, false, false, false, false, false, false] rfl rfl (by kernel_rfl) (fun _ _ _ h => h) (Or.inl ⟨by rfl, ?_⟩) hHeld ?_ ?_
  rotate_left
  · rintro w' ⟨hs1_, hs2_, hs3_, hs4_, hs5_, hs6_⟩
    go_simp
    with_reducible rfl
  rotate_left
  · simp only [ps_]
    rfl
  refine pure_ (i := 7) (N := some 69) (v := ?_) (a' := ?_) #[true, true, true, true, true, true, true, true, false, false, false, false, false, false, false, false, false, false] rfl rfl (by kernel_rfl) (fun _ _ _ h => h) (Or.inl ⟨by rfl, ?_⟩) ?_ ?_
  rotate_left
  · intro w'
    go_simp
    with_reducible rfl
  rotate_left
  · simp only [ps_]
    rfl
  refine pure_ (i := 8) (N := some 70) (v := ?_) (a' := ?_) #[true, true, true, true, true, true, true, true, true, false, false, false, false, false, false, false, false, false] rfl rfl (by kernel_rfl) (fun _ _ _ h => h) (Or.inl ⟨by rfl, ?_⟩) ?_ ?_
  rotate_left
  · intro w'
    go_simp
    with_reducible rfl
  rotate_left
  · simp only [ps_]
    rfl
  refine take_ (i := 9) (N := some 71) (v := ?_) (a' := ?_) #[true, true, true, true, true, true, true, true, true, true, false, false, false, false, false, false, false, false] rfl rfl (by kernel_rfl) (fun _ _ _ h => h) (Or.inl ⟨by rfl, ?_⟩) hHeld ?_ ?_
  rotate_left
  · rintro w' ⟨hs1_, hs2_, hs3_, hs4_, hs5_, hs6_⟩
    go_simp
    with_reducible rfl
  rotate_left
  · simp only [ps_]
    rfl
  refine pure_ (i := 10) (N := some 72) (v := ?_) (a' := ?_) #[true, true, true, true, true, true, true, true, true, true, true, false, false, false, false, false, false, false] rfl rfl (by kernel_rfl) (fun _ _ _ h => h) (Or.inl ⟨by rfl, ?_⟩) ?_ ?_
  rotate_left
  · intro w'
    go_simp
    with_reducible rfl
  rotate_left
  · simp only [ps_]
    rfl
  refine take_ (i := 11) (N := some 73) (v := ?_) (a' := ?_) #[true, true, true, true, true, true, true, true, true, true, true, true, false, false, false, false, false, false] rfl rfl (by kernel_rfl) (fun _ _ _ h => h) (Or.inl ⟨by rfl, ?_⟩) hHeld ?_ ?_
  rotate_left
  · rintro w' ⟨hs1_, hs2_, hs3_, hs4_, hs5_, hs6_⟩
    go_simp
    with_reducible rfl
  rotate_left
  · simp only [ps_]
    rfl
  refine one_ (i := 12) (N := some 74) #[true, true, true, true, true, true, true, true, true, true, true, true, true, false, false, false, false, false] rfl rfl (by kernel_rfl) (by decide) (fun K hK => ?_)
  refine goes_ Try.func41 (by kernel_rfl) rfl #[.int .i64 op, .int .i32 v, .int .i32 u] (by rfl) rfl rfl (by first | rfl | (simp only [List.map_toArray, List.map_cons, List.map_nil]; done) | (simp only [List.map_toArray, List.map_cons, List.map_nil]; rfl)) ?_
  refine (brazierref01_Bin.calls 70 _ _ _ _ _ _ HU.out).mono ?_
  rintro e_ w9 ⟨rfl, ⟨k9, rfl⟩⟩
  refine ⟨_, rfl, ?_⟩
  refine hK.out _ _ ⟨hHeld.1, hHeld.2.1, hHeld.2.2.1, hHeld.2.2.2.1, hHeld.2.2.2.2.1, ⟨by obtain ⟨k8, h8⟩ := hHeld.2.2.2.2.2.out; exact ⟨k8 + k9, by rw [h8, World.drewN_drewN]⟩⟩⟩ (fun hHeld => ?_)
  clear hK K
  refine norm_ (a' := ?_) ?_ ?_
  rotate_left
  · show Act.put _ (some 74) _ = _
    simp only [ps_]
    rfl
  refine pure_ (i := 13) (N := some 61) (v := ?_) (a' := ?_) #[true, true, true, true, true, true, true, true, true, true, true, true, true, true, false, false, false, false] rfl rfl (by kernel_rfl) (fun _ _ _ h => h) (Or.inl ⟨by rfl, ?_⟩) ?_ ?_
  rotate_left
  · intro w'
    go_simp
    with_reducible rfl
  rotate_left
  · simp only [ps_]
    rfl
  refine pure_ (i := 14) (N := some 75) (v := ?_) (a' := ?_) #[true, true, true, true, true, true, true, true, true, true, true, true, true, true, true, false, false, false] rfl rfl (by kernel_rfl) (fun _ _ _ h => h) (Or.inl ⟨by rfl, ?_⟩) ?_ ?_
  rotate_left
  · intro w'
    go_simp
    with_reducible rfl
  rotate_left
  · simp only [ps_]
    rfl
  refine pure_ (i := 15) (N := some 76) (v := ?_) (a' := ?_) #[true, true, true, true, true, true, true, true, true, true, true, true, true, true, true, true, false, false] rfl rfl (by kernel_rfl) (fun _ _ _ h => h) (Or.inl ⟨by rfl, ?_⟩) ?_ ?_
  rotate_left
  · intro w'
    go_simp
    with_reducible rfl
  rotate_left
  · simp only [ps_]
    rfl
  refine pure_ (i := 16) (N := some 8) (v := ?_) (a' := ?_) #[true, true, true, true, true, true, true, true, true, true, true, true, true, true, true, true, true, false] rfl rfl (by kernel_rfl) (fun _ _ _ h => h) (Or.inl ⟨by rfl, ?_⟩) ?_ ?_
  rotate_left
  · intro w'
    go_simp
    with_reducible rfl
  rotate_left
  · simp only [ps_]
    rfl
  refine pure_ (i := 17) (N := some 9) (v := ?_) (a' := ?_) #[true, true, true, true, true, true, true, true, true, true, true, true, true, true, true, true, true, true] rfl rfl (by kernel_rfl) (fun _ _ _ h => h) (Or.inl ⟨by rfl, ?_⟩) ?_ ?_
  rotate_left
  · intro w'
    go_simp
    with_reducible rfl
  rotate_left
  · simp only [ps_]
    rfl
  refine done_ (by kernel_rfl) ?_
  go_wp2
  refine bodyPost_end (v := .tuple #[]) (by simp [results, Try.results29, go_sem]) rfl ⟨rfl, ?_, ?_⟩
  · exact row32_put (blk_drewN HR1.out _) D r1
  · exact ((HT1.out.mono (fun q hq => hq.elim)).drewN _).set (S := one rb) (.inl (one_self rb)) _
set_option maxHeartbeats 4000000 in
set_option maxRecDepth 100000 in
theorem rins_div (rb : Nat) (regs : List Int) (n : Nat) (hn : regs.length = n) (W : World) (g : Nat) (E : RE) (c va : Int) (tv : Value) (st rd : Nat) (hb : W.heap[g]? = some (.cells (rC E ⟨c, 0, va, tv, st, rd⟩) 61 (0, 0))) (hr : W.heap[rb]? = some (.cells (row32 regs) 21 (0, 0)))
    (op D A B num : Int) (nm : ByteArray) (av : Value) (hav : av.oneCell' = true) (hD0 : 0 ≤ D) (hD1 : D < n) (hA0 : 0 ≤ A) (hA1 : A < n) (hB0 : 0 ≤ B) (hB1 : B < n) (hw : -2147483648 ≤ get32 regs A ∧ get32 regs A ≤ 2147483647) (hw2 : -2147483648 ≤ get32 regs B ∧ get32 regs B ≤ 2147483647) (hok : (binV op (get32 regs A) (get32 regs B)).2 = false) :
    Calls Try.prog 29 #[.pointer (some ⟨g, 0, none⟩), .slice (some ⟨rb, 0, none⟩) n n, .agg #[.int .i64 4, .int .i64 op, .int .i64 D, .int .i64 A, .int .i64 B, .int .i32 num, .string nm, av]] W fun e w' => e = .returned (.tuple #[]) ∧ Turned W w' g (rC E ⟨c, 2, va, tv, st, rd⟩) 61 := by
  have hltr := blk_lt hr
  have HR := Aside0.mk hr
  have HB := Aside0.mk hb
  have hltb := blk_lt hb
  clear hb
  have cd := row32_cell hr D hD0 (by omega)
  have fcd := row32_frozen hr D
  have ca := row32_cell hr A hA0 (by omega)
  have fca := row32_frozen hr A
  have cu := row32_cell hr B hB0 (by omega)
  have fcu := row32_frozen hr B
  obtain ⟨v, hv⟩ : ∃ v, get32 regs A = v := ⟨_, rfl⟩
  obtain ⟨u, hu⟩ : ∃ u, get32 regs B = u := ⟨_, rfl⟩
  rw [hv] at ca hw hok
  rw [hu] at cu hw2 hok
  obtain ⟨r1, r2, hun⟩ : ∃ r1 r2, binV op v u = (r1, r2) := ⟨_, _, rfl⟩
  rw [hun] at hok
  obtain rfl : r2 = false := hok
  have HU : Aside0 (brazierref01_Bin.f 70 op v u = some (r1, false)) := ⟨by rw [refbin_is 70 (by decide) op v u hw hw2, hun]⟩
  have HCD := Aside0.mk cd
  have HCA := Aside0.mk ca
  have HCU := Aside0.mk cu
  clear hr hn hv hu cd ca cu fcd fca fcu hun hw hw2
  go_enter Try.func29, Try.ntmps29
  go_wp2
  have ht1 : Tr nil_ W (W.alloc (.cells #[.int .i64 4, .int .i64 op, .int .i64 D, .int .i64 A, .int .i64 B, .int .i32 num, .string nm, av] 44)) := (Tr.refl nil_ W).alloc _
  have hx1 : (W.alloc (.cells #[.int .i64 4, .int .i64 op, .int .i64 D, .int .i64 A, .int .i64 B, .int .i32 num, .string nm, av] 44)).heap[W.heap.size]? = some (.cells #[.int .i64 4, .int .i64 op, .int .i64 D, .int .i64 A, .int .i64 B, .int .i32 num, .string nm, av] 44 (0, 0)) := blk_new _ _
  generalize W.alloc (.cells #[.int .i64 4, .int .i64 op, .int .i64 D, .int .i64 A, .int .i64 B, .int .i32 num, .string nm, av] 44) = w1 at ht1 hx1 ⊢
  have ed := ht1.cell HCD.out (fun h => h)
  have ea := ht1.cell HCA.out (fun h => h)
  have eu := ht1.cell HCU.out (fun h => h)
  have hr1 := ht1.blk HR.out (fun h => h)
  have fd := row32_frozen hr1 D
  have HB1 := Aside0.mk (ht1.blk HB.out (fun h => h))
  have e1 : w1.cell? ⟨W.heap.size, 1, none⟩ = some (.int .i64 op) := (blk_cell hx1 1).trans rfl
  have e2 : w1.cell? ⟨W.heap.size, 2, none⟩ = some (.int .i64 D) := (blk_cell hx1 2).trans rfl
  have e3 : w1.cell? ⟨W.heap.size, 3, none⟩ = some (.int .i64 A) := (blk_cell hx1 3).trans rfl
  have e4 : w1.cell? ⟨W.heap.size, 4, none⟩ = some (.int .i64 B) := (blk_cell hx1 4).trans rfl
  have HT1 := Aside0.mk ht1
  have HR1 := Aside0.mk hr1
  clear ht1 hx1 hr1
  refine start_ (n := 18) (S := fun w_ => w_.cell? ⟨W.heap.size, 1, none⟩ = some (.int .i64 op) ∧ w_.cell? ⟨W.heap.size, 3, none⟩ = some (.int .i64 A) ∧ w_.cell? ⟨W.heap.size, 4, none⟩ = some (.int .i64 B) ∧ w_.cell? ⟨rb, A.toNat, none⟩ = some (.int .i32 v) ∧ w_.cell? ⟨rb, B.toNat, none⟩ = some (.int .i32 u) ∧ Aside0 (∃ k, w_ = w1.drewN k)) (ds := []) #[false, false, false, false, false, false, false, false, false, false, false, false, false, false, false, false, false, false] (by kernel_rfl) rfl rfl ⟨e1, e3, e4, ea, eu, ⟨⟨1, rfl⟩⟩⟩ (fun hHeld => ?_)
  refine pure_ (i := 0) (N := some 62) (v := ?_) (a' := ?_) #[true, false, false, false, false, false, false, false, false, false, false, false, false, false, false, false, false, false] rfl rfl (by kernel_rfl) (fun _ _ _ h => h) (Or.inl ⟨by rfl, ?_⟩) ?_ ?_
  rotate_left
  · intro w'
    go_simp
    with_reducible rfl
  rotate_left
  · simp only [ps_]
    rfl
  refine take_ (i := 1) (N := some 63) (v := ?_) (a' := ?_) #[true, true, false, false, false, false, false, false, false, false, false, false, false, false, false, false, false, false] rfl rfl (by kernel_rfl) (fun _ _ _ h => h) (Or.inl ⟨by rfl, ?_⟩) hHeld ?_ ?_
  rotate_left
  · rintro w' ⟨hs1_, hs2_, hs3_, hs4_, hs5_, hs6_⟩
    go_simp
    with_reducible rfl
  rotate_left
  · simp only [ps_]
    rfl
  refine pure_ (i := 2) (N := some 64) (v := ?_) (a' := ?_) #[true, true, true, false, false, false, false, false, false, false, false, false, false, false, false, false, false, false] rfl rfl (by kernel_rfl) (fun _ _ _ h => h) (Or.inl ⟨by rfl, ?_⟩) ?_ ?_
  rotate_left
  · intro w'
    go_simp
    with_reducible rfl
  rotate_left
  · simp only [ps_]
    rfl
  refine pure_ (i := 3) (N := some 65) (v := ?_) (a' := ?_) #[true, true, true, true, false, false, false, false, false, false, false, false, false, false, false, false, false, false] rfl rfl (by kernel_rfl) (fun _ _ _ h => h) (Or.inl ⟨by rfl, ?_⟩) ?_ ?_
  rotate_left
  · intro w'
    go_simp
    with_reducible rfl
  rotate_left
  · simp only [ps_]
    rfl
  refine take_ (i := 4) (N := some 66) (v := ?_) (a' := ?_) #[true, true, true, true, true, false, false, false, false, false, false, false, false, false, false, false, false, false] rfl rfl (by kernel_rfl) (fun _ _ _ h => h) (Or.inl ⟨by rfl, ?_⟩) hHeld ?_ ?_
  rotate_left
  · rintro w' ⟨hs1_, hs2_, hs3_, hs4_, hs5_, hs6_⟩
    go_simp
    with_reducible rfl
  rotate_left
  · simp only [ps_]
    rfl
  refine pure_ (i := 5) (N := some 67) (v := ?_) (a' := ?_) #[true, true, true, true, true, true, false, false, false, false, false, false, false, false, false, false, false, false] rfl rfl (by kernel_rfl) (fun _ _ _ h => h) (Or.inl ⟨by rfl, ?_⟩) ?_ ?_
  rotate_left
  · intro w'
    go_simp
    with_reducible rfl
  rotate_left
  · simp only [ps_]
    rfl
  refine take_ (i := 6) (N := some 68) (v := ?_) (a' := ?_) #[true, true, true, true, true, true, true, false, false, false, false, false, false, false, false, false, false, false] rfl rfl (by kernel_rfl) (fun _ _ _ h => h) (Or.inl ⟨by rfl, ?_⟩) hHeld ?_ ?_
  rotate_left
  · rintro w' ⟨hs1_, hs2_, hs3_, hs4_, hs5_, hs6_⟩
    go_simp
    with_reducible rfl
  rotate_left
  · simp only [ps_]
    rfl
  refine pure_ (i := 7) (N := some 69) (v := ?_) (a' := ?_) #[true, true, true, true, true, true, true, true, false, false, false, false, false, false, false, false, false, false] rfl rfl (by kernel_rfl) (fun _ _ _ h => h) (Or.inl ⟨by rfl, ?_⟩) ?_ ?_
  rotate_left
  · intro w'
    go_simp
    with_reducible rfl
  rotate_left
  · simp only [ps_]
    rfl
  refine pure_ (i := 8) (N := some 70) (v := ?_) (a' := ?_) #[true, true, true, true, true, true, true, true, true, false, false, false, false, false, false, false, false, false] rfl rfl (by kernel_rfl) (fun _ _ _ h => h) (Or.inl ⟨by rfl, ?_⟩) ?_ ?_
  rotate_left
  · intro w'
    go_simp
    with_reducible rfl
  rotate_left
  · simp only [ps_]
    rfl
  refine take_ (i := 9) (N := some 71) (v := ?_) (a' := ?_) #[true, true, true, true, true, true, true, true, true, true, false, false, false, false, false, false, false, false] rfl rfl (by kernel_rfl) (fun _ _ _ h => h) (Or.inl ⟨by rfl, ?_⟩) hHeld ?_ ?_
  rotate_left
  · rintro w' ⟨hs1_, hs2_, hs3_, hs4_, hs5_, hs6_⟩
    go_simp
    with_reducible rfl
  rotate_left
  · simp only [ps_]
    rfl
  refine pure_ (i := 10) (N := some 72) (v := ?_) (a' := ?_) #[true, true, true, true, true, true, true, true, true, true, true, false, false, false, false, false, false, false] rfl rfl (by kernel_rfl) (fun _ _ _ h => h) (Or.inl ⟨by rfl, ?_⟩) ?_ ?_
  rotate_left
  · intro w'
    go_simp
    with_reducible rfl
  rotate_left
  · simp only [ps_]
    rfl
  refine take_ (i := 11) (N := some 73) (v := ?_) (a' := ?_) #[true, true, true, true, true, true, true, true, true, true, true, true, false, false, false, false, false, false] rfl rfl (by kernel_rfl) (fun _ _ _ h => h) (Or.inl ⟨by rfl, ?_⟩) hHeld ?_ ?_
  rotate_left
  · rintro w' ⟨hs1_, hs2_, hs3_, hs4_, hs5_, hs6_⟩
    go_simp
    with_reducible rfl
  rotate_left
  · simp only [ps_]
    rfl
  refine one_ (i := 12) (N := some 74) #[true, true, true, true, true, true, true, true, true, true, true, true, true, false, false, false, false, false] rfl rfl (by kernel_rfl) (by decide) (fun K hK => ?_)
  refine goes_ Try.func41 (by kernel_rfl) rfl #[.int .i64 op, .int .i32 v, .int .i32 u] (by rfl) rfl rfl (by first | rfl | (simp only [List.map_toArray, List.map_cons, List.map_nil]; done) | (simp only [List.map_toArray, List.map_cons, List.map_nil]; rfl)) ?_
  refine (brazierref01_Bin.calls 70 _ _ _ _ _ _ HU.out).mono ?_
  rintro e_ w9 ⟨rfl, ⟨k9, rfl⟩⟩
  refine ⟨_, rfl, ?_⟩
  refine hK.out _ _ ⟨hHeld.1, hHeld.2.1, hHeld.2.2.1, hHeld.2.2.2.1, hHeld.2.2.2.2.1, ⟨by obtain ⟨k8, h8⟩ := hHeld.2.2.2.2.2.out; exact ⟨k8 + k9, by rw [h8, World.drewN_drewN]⟩⟩⟩ (fun hHeld => ?_)
  clear hK K
  refine norm_ (a' := ?_) ?_ ?_
  rotate_left
  · show Act.put _ (some 74) _ = _
    simp only [ps_]
    rfl
  refine pure_ (i := 13) (N := some 61) (v := ?_) (a' := ?_) #[true, true, true, true, true, true, true, true, true, true, true, true, true, true, false, false, false, false] rfl rfl (by kernel_rfl) (fun _ _ _ h => h) (Or.inl ⟨by rfl, ?_⟩) ?_ ?_
  rotate_left
  · intro w'
    go_simp
    with_reducible rfl
  rotate_left
  · simp only [ps_]
    rfl
  refine pure_ (i := 14) (N := some 75) (v := ?_) (a' := ?_) #[true, true, true, true, true, true, true, true, true, true, true, true, true, true, true, false, false, false] rfl rfl (by kernel_rfl) (fun _ _ _ h => h) (Or.inl ⟨by rfl, ?_⟩) ?_ ?_
  rotate_left
  · intro w'
    go_simp
    with_reducible rfl
  rotate_left
  · simp only [ps_]
    rfl
  refine pure_ (i := 15) (N := some 76) (v := ?_) (a' := ?_) #[true, true, true, true, true, true, true, true, true, true, true, true, true, true, true, true, false, false] rfl rfl (by kernel_rfl) (fun _ _ _ h => h) (Or.inl ⟨by rfl, ?_⟩) ?_ ?_
  rotate_left
  · intro w'
    go_simp
    with_reducible rfl
  rotate_left
  · simp only [ps_]
    rfl
  refine pure_ (i := 16) (N := some 8) (v := ?_) (a' := ?_) #[true, true, true, true, true, true, true, true, true, true, true, true, true, true, true, true, true, false] rfl rfl (by kernel_rfl) (fun _ _ _ h => h) (Or.inl ⟨by rfl, ?_⟩) ?_ ?_
  rotate_left
  · intro w'
    go_simp
    with_reducible rfl
  rotate_left
  · simp only [ps_]
    rfl
  refine pure_ (i := 17) (N := some 9) (v := ?_) (a' := ?_) #[true, true, true, true, true, true, true, true, true, true, true, true, true, true, true, true, true, true] rfl rfl (by kernel_rfl) (fun _ _ _ h => h) (Or.inl ⟨by rfl, ?_⟩) ?_ ?_
  rotate_left
  · intro w'
    go_simp
    with_reducible rfl
  rotate_left
  · simp only [ps_]
    rfl
  refine done_ (by kernel_rfl) ?_
  have fm6 := blk_frozen HB1.out 6
  have cm6 : w1.cell? ⟨g, 6, none⟩ = some (.int .i64 0) := (blk_cell HB1.out 6).trans rfl
  go_wp2
  refine bodyPost_ret (v := .tuple #[]) (by simp [results, Try.results29, go_sem]) rfl ⟨rfl, ?_, ?_⟩
  · exact blk_put (blk_drewN HB1.out _) 6 _ (by simp [rC])
  · exact ((HT1.out.mono (fun q hq => hq.elim)).drewN _).set (S := one g) (.inl (one_self g)) _
end Go.Proofs.Ytabkinlpbefjgaa.L

