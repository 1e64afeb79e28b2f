/- Texts of this seat that a claim bears, put together by this session's own program shake.py: TrRe, TrRf, TrZw. -/
import Derived.Test.YtabkinlpbefjgaaKps
import Derived.Test.YtabkinlpbefjgaaKd19
namespace Go.Proofs.Ytabkinlpbefjgaa.L
open Go.RowKit Go.Proofs.Ytabkinlpbefjgaa.X Go.Proofs.YtabkinlpbefjgaaW.PrintWords Go.Proofs.YtabkinlpbefjgaaW.PrintLast Go.Proofs.YtabkinlpbefjgaaW.PrintMore
attribute [local go_sem] max2_int min2_int max_two min_two max_three min_three max_four min_four   -- for this text's walks alone
set_option linter.unusedVariables false
set_option linter.unusedSimpArgs false
open Go.Proofs.Ytabkinlpbefjgaa.Pure
set_option maxHeartbeats 4000000 in
set_option maxRecDepth 100000 in
theorem rins5_neg (AG : Option Addr) (cG : Nat) (GS : List S57) (AF : Option Addr) (cF : Nat) (F : List S47) (db cD : Nat) (iv : Value) (fuel : Int) (c va : Int) (tv : Value) (st rd : Nat) (W : World) (g : Nat) (hb : W.heap[g]? = some (.cells (rC (rE AG cG GS AF cF F db cD iv fuel) ⟨c, 0, va, tv, st, rd⟩) 61 (0, 0))) (hG : Kd.C k57 W AG GS.length GS) (hcG : GS.length ≤ cG) (hF : Kd.C k47 W AF F.length F) (hcF : F.length ≤ cF) (hfew : GS.length ≤ 1000) (rb : Nat) (regs : List Int) (n : Nat) (hn : regs.length = n) (hr : W.heap[rb]? = some (.cells (row32 regs) 21 (0, 0))) (op D A B num : Int) (nm : ByteArray) (av : Value) (hav : av.oneCell' = true) (hgi : glAt GS nm < GS.length) (wb : Nat) (ws : List Int) (hd : W.cell? ⟨db, glAt GS nm, none⟩ = some (.slice (some ⟨wb, 0, none⟩) ws.length ws.length)) (hws : W.heap[wb]? = some (.cells (row32 ws) 21 (0, 0))) (hcD : GS.length ≤ cD) (hwl : ws.length ≤ 1000000) (hx3 : A < 0) (hw : 0 < ws.length) (hD0 : 0 ≤ D) (hD1 : D < n) :
    Calls Try.prog 29 #[.pointer (some ⟨g, 0, none⟩), .slice (some ⟨rb, 0, none⟩) n n, .agg #[.int .i64 5, .int .i64 op, .int .i64 D, .int .i64 A, .int .i64 B, .int .i32 num, .string nm, av]] W fun e w' => e = .returned (.tuple #[]) ∧ Turned W w' rb (row32 (put32 regs D (get32 ws 0))) 21 := by
  have hb1_ : Below W.heap.size W (W.alloc (.cells #[.int .i64 5, .int .i64 op, .int .i64 D, .int .i64 A, .int .i64 B, .int .i32 num, .string nm, av] 44)) := below_alloc (Below.refl _ _) _
  have HI : Aside0 (Calls Try.prog 42 #[.pointer (some ⟨g, 0, none⟩), .slice (some ⟨rb, 0, none⟩) n n, .agg #[.int .i64 5, .int .i64 op, .int .i64 D, .int .i64 A, .int .i64 B, .int .i32 num, .string nm, av]] (W.alloc (.cells #[.int .i64 5, .int .i64 op, .int .i64 D, .int .i64 A, .int .i64 B, .int .i32 num, .string nm, av] 44)) fun e w' => e = .returned (.tuple #[.int .i64 (glAt GS nm : Int), .int .i64 0, .bool true]) ∧ Below (W.alloc (.cells #[.int .i64 5, .int .i64 op, .int .i64 D, .int .i64 A, .int .i64 B, .int .i32 num, .string nm, av] 44)).heap.size (W.alloc (.cells #[.int .i64 5, .int .i64 op, .int .i64 D, .int .i64 A, .int .i64 B, .int .i32 num, .string nm, av] 44)) w') := ⟨rindex_neg AG cG GS AF cF F db cD iv fuel c va tv st rd (W.alloc (.cells #[.int .i64 5, .int .i64 op, .int .i64 D, .int .i64 A, .int .i64 B, .int .i32 num, .string nm, av] 44)) g (blk_below hb hb1_) (Kd.C_below hG hb1_) hcG (Kd.C_below hF hb1_) hcF hfew rb regs n hn (blk_below hr hb1_) ⟨5, op, D, A, B, num, nm, []⟩ av hav hgi wb ws.length (pw_cell_below hb1_ hd) hcD hwl hx3 hw⟩
  have HB1 := Aside0.mk hb1_
  have HX1 := Aside0.mk (blk_new W (.cells #[.int .i64 5, .int .i64 op, .int .i64 D, .int .i64 A, .int .i64 B, .int .i32 num, .string nm, av] 44))
  have HB := Aside0.mk hb
  have HR := Aside0.mk hr
  have HWS := Aside0.mk hws
  have HD := Aside0.mk hd
  have hltg := blk_lt hb
  have hltr := blk_lt hr
  have hltw := blk_lt hws
  have hgic : (glAt GS nm : Int) < (GS.length : Int) := by omega
  have hw0 : (0 : Int) < (ws.length : Int) := by omega
  have cw : W.cell? ⟨wb, 0, none⟩ = some (.int .i32 (get32 ws 0)) := row32_cell hws 0 (Int.le_refl 0) hw0
  obtain ⟨z, hz⟩ : ∃ z, get32 ws 0 = z := ⟨_, rfl⟩
  rw [hz] at cw ⊢
  have cd := row32_cell hr D hD0 (by omega)
  have hDn : D < (n : Int) := hD1
  have HCW := Aside0.mk cw
  obtain ⟨zd, hzd⟩ : ∃ zd, get32 regs D = zd := ⟨_, rfl⟩
  rw [hzd] at cd
  have HCD := Aside0.mk cd
  clear cd hzd hD1
  obtain ⟨gi, hgi2⟩ : ∃ gi, glAt GS nm = gi := ⟨_, rfl⟩
  rw [hgi2] at HI HD hgi hgic
  clear cw hz hgi2 hb hr hws hd hG hF hb1_ hn
  go_enter Try.func29, Try.ntmps29
  go_wp2_with (go_at_call 42; (with_reducible refine HI.out.mono ?_); rintro e w2 ⟨rfl, hB⟩; have HT2 := Aside0.mk (below_step HB1.out hB); have HX2 := Aside0.mk (blk_below HX1.out hB); clear hB)
  have m2 : w2.cell? ⟨g, 2, none⟩ = some (.slice (some ⟨db, 0, none⟩) GS.length cD) := (blk_cell (blk_below HB.out HT2.out) 2).trans rfl
  have hd2 : w2.cell? ⟨db, gi, none⟩ = some (.slice (some ⟨wb, 0, none⟩) ws.length ws.length) := pw_cell_below HT2.out HD.out
  have cw2 := pw_cell_below HT2.out HCW.out
  have e2 : w2.cell? ⟨W.heap.size, 2, none⟩ = some (.int .i64 D) := (blk_cell HX2.out 2).trans rfl
  have cd2 := pw_cell_below HT2.out HCD.out
  have fd2 := row32_frozen (blk_below HR.out HT2.out) D
  go_still_tail 14, (by kernel_rfl)
  go_wp2
  refine bodyPost_end (v := .tuple #[]) (by simp [results, Try.results29, go_sem]) rfl ⟨rfl, ?_, ?_⟩
  · exact blk_drew (row32_put (blk_below HR.out HT2.out) D z)
  · exact ((Tr.of_below HT2.out (one rb)).set (.inl (one_self rb)) _).drew
set_option maxHeartbeats 4000000 in
set_option maxRecDepth 100000 in
theorem rins5_in (AG : Option Addr) (cG : Nat) (GS : List S57) (AF : Option Addr) (cF : Nat) (F : List S47) (db cD : Nat) (iv : Value) (fuel : Int) (c va : Int) (tv : Value) (st rd : Nat) (W : World) (g : Nat) (hb : W.heap[g]? = some (.cells (rC (rE AG cG GS AF cF F db cD iv fuel) ⟨c, 0, va, tv, st, rd⟩) 61 (0, 0))) (hG : Kd.C k57 W AG GS.length GS) (hcG : GS.length ≤ cG) (hF : Kd.C k47 W AF F.length F) (hcF : F.length ≤ cF) (hfew : GS.length ≤ 1000) (rb : Nat) (regs : List Int) (n : Nat) (hn : regs.length = n) (hr : W.heap[rb]? = some (.cells (row32 regs) 21 (0, 0))) (op D A B num : Int) (nm : ByteArray) (av : Value) (hav : av.oneCell' = true) (hgi : glAt GS nm < GS.length) (wb : Nat) (ws : List Int) (hd : W.cell? ⟨db, glAt GS nm, none⟩ = some (.slice (some ⟨wb, 0, none⟩) ws.length ws.length)) (hws : W.heap[wb]? = some (.cells (row32 ws) 21 (0, 0))) (hcD : GS.length ≤ cD) (hwl : ws.length ≤ 1000000) (h0 : 0 ≤ A) (h1 : A < (n : Int)) (hi0 : 0 ≤ get32 regs A) (hi1 : get32 regs A < (ws.length : Int)) (hD0 : 0 ≤ D) (hD1 : D < n) :
    Calls Try.prog 29 #[.pointer (some ⟨g, 0, none⟩), .slice (some ⟨rb, 0, none⟩) n n, .agg #[.int .i64 5, .int .i64 op, .int .i64 D, .int .i64 A, .int .i64 B, .int .i32 num, .string nm, av]] W fun e w' => e = .returned (.tuple #[]) ∧ Turned W w' rb (row32 (put32 regs D (get32 ws (get32 regs A)))) 21 := by
  have hb1_ : Below W.heap.size W (W.alloc (.cells #[.int .i64 5, .int .i64 op, .int .i64 D, .int .i64 A, .int .i64 B, .int .i32 num, .string nm, av] 44)) := below_alloc (Below.refl _ _) _
  have HI : Aside0 (Calls Try.prog 42 #[.pointer (some ⟨g, 0, none⟩), .slice (some ⟨rb, 0, none⟩) n n, .agg #[.int .i64 5, .int .i64 op, .int .i64 D, .int .i64 A, .int .i64 B, .int .i32 num, .string nm, av]] (W.alloc (.cells #[.int .i64 5, .int .i64 op, .int .i64 D, .int .i64 A, .int .i64 B, .int .i32 num, .string nm, av] 44)) fun e w' => e = .returned (.tuple #[.int .i64 (glAt GS nm : Int), .int .i64 (get32 regs A), .bool true]) ∧ Below (W.alloc (.cells #[.int .i64 5, .int .i64 op, .int .i64 D, .int .i64 A, .int .i64 B, .int .i32 num, .string nm, av] 44)).heap.size (W.alloc (.cells #[.int .i64 5, .int .i64 op, .int .i64 D, .int .i64 A, .int .i64 B, .int .i32 num, .string nm, av] 44)) w') := ⟨rindex_in AG cG GS AF cF F db cD iv fuel c va tv st rd (W.alloc (.cells #[.int .i64 5, .int .i64 op, .int .i64 D, .int .i64 A, .int .i64 B, .int .i32 num, .string nm, av] 44)) g (blk_below hb hb1_) (Kd.C_below hG hb1_) hcG (Kd.C_below hF hb1_) hcF hfew rb regs n hn (blk_below hr hb1_) ⟨5, op, D, A, B, num, nm, []⟩ av hav hgi wb ws.length (pw_cell_below hb1_ hd) hcD hwl h0 h1 hi0 hi1⟩
  have HB1 := Aside0.mk hb1_
  have HX1 := Aside0.mk (blk_new W (.cells #[.int .i64 5, .int .i64 op, .int .i64 D, .int .i64 A, .int .i64 B, .int .i32 num, .string nm, av] 44))
  have HB := Aside0.mk hb
  have HR := Aside0.mk hr
  have HWS := Aside0.mk hws
  have HD := Aside0.mk hd
  have hltg := blk_lt hb
  have hltr := blk_lt hr
  have hltw := blk_lt hws
  have hgic : (glAt GS nm : Int) < (GS.length : Int) := by omega
  have cw := row32_cell hws (get32 regs A) hi0 hi1
  obtain ⟨z, hz⟩ : ∃ z, get32 ws (get32 regs A) = z := ⟨_, rfl⟩
  rw [hz] at cw ⊢
  have cd := row32_cell hr D hD0 (by omega)
  have hDn : D < (n : Int) := hD1
  obtain ⟨v, hv⟩ : ∃ v, get32 regs A = v := ⟨_, rfl⟩
  rw [hv] at cw hi0 hi1 HI
  have HCW := Aside0.mk cw
  obtain ⟨zd, hzd⟩ : ∃ zd, get32 regs D = zd := ⟨_, rfl⟩
  rw [hzd] at cd
  have HCD := Aside0.mk cd
  clear cd hzd hD1
  obtain ⟨gi, hgi2⟩ : ∃ gi, glAt GS nm = gi := ⟨_, rfl⟩
  rw [hgi2] at HI HD hgi hgic
  clear cw hz hgi2 hb hr hws hd hG hF hb1_ hn h1 hv
  go_enter Try.func29, Try.ntmps29
  go_wp2_with (go_at_call 42; (with_reducible refine HI.out.mono ?_); rintro e w2 ⟨rfl, hB⟩; have HT2 := Aside0.mk (below_step HB1.out hB); have HX2 := Aside0.mk (blk_below HX1.out hB); clear hB)
  have m2 : w2.cell? ⟨g, 2, none⟩ = some (.slice (some ⟨db, 0, none⟩) GS.length cD) := (blk_cell (blk_below HB.out HT2.out) 2).trans rfl
  have hd2 : w2.cell? ⟨db, gi, none⟩ = some (.slice (some ⟨wb, 0, none⟩) ws.length ws.length) := pw_cell_below HT2.out HD.out
  have cw2 := pw_cell_below HT2.out HCW.out
  have e2 : w2.cell? ⟨W.heap.size, 2, none⟩ = some (.int .i64 D) := (blk_cell HX2.out 2).trans rfl
  have cd2 := pw_cell_below HT2.out HCD.out
  have fd2 := row32_frozen (blk_below HR.out HT2.out) D
  go_still_tail 14, (by kernel_rfl)
  go_wp2
  refine bodyPost_end (v := .tuple #[]) (by simp [results, Try.results29, go_sem]) rfl ⟨rfl, ?_, ?_⟩
  · exact blk_drew (row32_put (blk_below HR.out HT2.out) D z)
  · exact ((Tr.of_below HT2.out (one rb)).set (.inl (one_self rb)) _).drew
set_option maxHeartbeats 4000000 in
set_option maxRecDepth 100000 in
theorem rins5_low (AG : Option Addr) (cG : Nat) (GS : List S57) (AF : Option Addr) (cF : Nat) (F : List S47) (db cD : Nat) (iv : Value) (fuel : Int) (c va : Int) (tv : Value) (st rd : Nat) (W : World) (g : Nat) (hb : W.heap[g]? = some (.cells (rC (rE AG cG GS AF cF F db cD iv fuel) ⟨c, 0, va, tv, st, rd⟩) 61 (0, 0))) (hG : Kd.C k57 W AG GS.length GS) (hcG : GS.length ≤ cG) (hF : Kd.C k47 W AF F.length F) (hcF : F.length ≤ cF) (hfew : GS.length ≤ 1000) (rb : Nat) (regs : List Int) (n : Nat) (hn : regs.length = n) (hr : W.heap[rb]? = some (.cells (row32 regs) 21 (0, 0))) (op D A B num : Int) (nm : ByteArray) (av : Value) (hav : av.oneCell' = true) (hgi : glAt GS nm < GS.length) (wb : Nat) (ws : List Int) (hd : W.cell? ⟨db, glAt GS nm, none⟩ = some (.slice (some ⟨wb, 0, none⟩) ws.length ws.length)) (hws : W.heap[wb]? = some (.cells (row32 ws) 21 (0, 0))) (hcD : GS.length ≤ cD) (hwl : ws.length ≤ 1000000) (h0 : 0 ≤ A) (h1 : A < (n : Int)) (hi : get32 regs A < 0) (hi2 : -2147483648 ≤ get32 regs A) :
    Calls Try.prog 29 #[.pointer (some ⟨g, 0, none⟩), .slice (some ⟨rb, 0, none⟩) n n, .agg #[.int .i64 5, .int .i64 op, .int .i64 D, .int .i64 A, .int .i64 B, .int .i32 num, .string nm, av]] W fun e w' => e = .returned (.tuple #[]) ∧ Turned W w' g (rC (rE AG cG GS AF cF F db cD iv fuel) ⟨c, 3, va, tv, st, rd⟩) 61 := by
  have hb1_ : Below W.heap.size W (W.alloc (.cells #[.int .i64 5, .int .i64 op, .int .i64 D, .int .i64 A, .int .i64 B, .int .i32 num, .string nm, av] 44)) := below_alloc (Below.refl _ _) _
  have HI : Aside0 (Calls Try.prog 42 #[.pointer (some ⟨g, 0, none⟩), .slice (some ⟨rb, 0, none⟩) n n, .agg #[.int .i64 5, .int .i64 op, .int .i64 D, .int .i64 A, .int .i64 B, .int .i32 num, .string nm, av]] (W.alloc (.cells #[.int .i64 5, .int .i64 op, .int .i64 D, .int .i64 A, .int .i64 B, .int .i32 num, .string nm, av] 44)) fun e w' => e = .returned (.tuple #[.int .i64 0, .int .i64 0, .bool false]) ∧ Turned (W.alloc (.cells #[.int .i64 5, .int .i64 op, .int .i64 D, .int .i64 A, .int .i64 B, .int .i32 num, .string nm, av] 44)) w' g (rC (rE AG cG GS AF cF F db cD iv fuel) ⟨c, 3, va, tv, st, rd⟩) 61) := ⟨rindex_low AG cG GS AF cF F db cD iv fuel c va tv st rd (W.alloc (.cells #[.int .i64 5, .int .i64 op, .int .i64 D, .int .i64 A, .int .i64 B, .int .i32 num, .string nm, av] 44)) g (blk_below hb hb1_) (Kd.C_below hG hb1_) hcG (Kd.C_below hF hb1_) hcF hfew rb regs n hn (blk_below hr hb1_) ⟨5, op, D, A, B, num, nm, []⟩ av hav hgi wb ws.length (pw_cell_below hb1_ hd) hcD hwl h0 h1 hi hi2⟩
  have HB1 := Aside0.mk hb1_
  have HX1 := Aside0.mk (blk_new W (.cells #[.int .i64 5, .int .i64 op, .int .i64 D, .int .i64 A, .int .i64 B, .int .i32 num, .string nm, av] 44))
  have HB := Aside0.mk hb
  have HR := Aside0.mk hr
  have HWS := Aside0.mk hws
  have HD := Aside0.mk hd
  have hltg := blk_lt hb
  have hltr := blk_lt hr
  have hltw := blk_lt hws
  clear hb hr hws hd hG hF hb1_ hn h1
  go_enter Try.func29, Try.ntmps29
  go_wp2_with (go_at_call 42; (with_reducible refine HI.out.mono ?_); rintro e w2 ⟨rfl, hT⟩; have HT2 := Aside0.mk hT; clear hT)
  refine bodyPost_end (v := .tuple #[]) (by simp [results, Try.results29, go_sem]) rfl ⟨rfl, HT2.out.1, (Tr.of_below HB1.out (one g)).trans HT2.out.2⟩
set_option maxHeartbeats 4000000 in
set_option maxRecDepth 100000 in
theorem rins5_high (AG : Option Addr) (cG : Nat) (GS : List S57) (AF : Option Addr) (cF : Nat) (F : List S47) (db cD : Nat) (iv : Value) (fuel : Int) (c va : Int) (tv : Value) (st rd : Nat) (W : World) (g : Nat) (hb : W.heap[g]? = some (.cells (rC (rE AG cG GS AF cF F db cD iv fuel) ⟨c, 0, va, tv, st, rd⟩) 61 (0, 0))) (hG : Kd.C k57 W AG GS.length GS) (hcG : GS.length ≤ cG) (hF : Kd.C k47 W AF F.length F) (hcF : F.length ≤ cF) (hfew : GS.length ≤ 1000) (rb : Nat) (regs : List Int) (n : Nat) (hn : regs.length = n) (hr : W.heap[rb]? = some (.cells (row32 regs) 21 (0, 0))) (op D A B num : Int) (nm : ByteArray) (av : Value) (hav : av.oneCell' = true) (hgi : glAt GS nm < GS.length) (wb : Nat) (ws : List Int) (hd : W.cell? ⟨db, glAt GS nm, none⟩ = some (.slice (some ⟨wb, 0, none⟩) ws.length ws.length)) (hws : W.heap[wb]? = some (.cells (row32 ws) 21 (0, 0))) (hcD : GS.length ≤ cD) (hwl : ws.length ≤ 1000000) (h0 : 0 ≤ A) (h1 : A < (n : Int)) (hi : (ws.length : Int) ≤ get32 regs A) (hi2 : get32 regs A ≤ 2147483647) :
    Calls Try.prog 29 #[.pointer (some ⟨g, 0, none⟩), .slice (some ⟨rb, 0, none⟩) n n, .agg #[.int .i64 5, .int .i64 op, .int .i64 D, .int .i64 A, .int .i64 B, .int .i32 num, .string nm, av]] W fun e w' => e = .returned (.tuple #[]) ∧ Turned W w' g (rC (rE AG cG GS AF cF F db cD iv fuel) ⟨c, 3, va, tv, st, rd⟩) 61 := by
  have hb1_ : Below W.heap.size W (W.alloc (.cells #[.int .i64 5, .int .i64 op, .int .i64 D, .int .i64 A, .int .i64 B, .int .i32 num, .string nm, av] 44)) := below_alloc (Below.refl _ _) _
  have HI : Aside0 (Calls Try.prog 42 #[.pointer (some ⟨g, 0, none⟩), .slice (some ⟨rb, 0, none⟩) n n, .agg #[.int .i64 5, .int .i64 op, .int .i64 D, .int .i64 A, .int .i64 B, .int .i32 num, .string nm, av]] (W.alloc (.cells #[.int .i64 5, .int .i64 op, .int .i64 D, .int .i64 A, .int .i64 B, .int .i32 num, .string nm, av] 44)) fun e w' => e = .returned (.tuple #[.int .i64 0, .int .i64 0, .bool false]) ∧ Turned (W.alloc (.cells #[.int .i64 5, .int .i64 op, .int .i64 D, .int .i64 A, .int .i64 B, .int .i32 num, .string nm, av] 44)) w' g (rC (rE AG cG GS AF cF F db cD iv fuel) ⟨c, 3, va, tv, st, rd⟩) 61) := ⟨rindex_high AG cG GS AF cF F db cD iv fuel c va tv st rd (W.alloc (.cells #[.int .i64 5, .int .i64 op, .int .i64 D, .int .i64 A, .int .i64 B, .int .i32 num, .string nm, av] 44)) g (blk_below hb hb1_) (Kd.C_below hG hb1_) hcG (Kd.C_below hF hb1_) hcF hfew rb regs n hn (blk_below hr hb1_) ⟨5, op, D, A, B, num, nm, []⟩ av hav hgi wb ws.length (pw_cell_below hb1_ hd) hcD hwl h0 h1 hi hi2⟩
  have HB1 := Aside0.mk hb1_
  have HX1 := Aside0.mk (blk_new W (.cells #[.int .i64 5, .int .i64 op, .int .i64 D, .int .i64 A, .int .i64 B, .int .i32 num, .string nm, av] 44))
  have HB := Aside0.mk hb
  have HR := Aside0.mk hr
  have HWS := Aside0.mk hws
  have HD := Aside0.mk hd
  have hltg := blk_lt hb
  have hltr := blk_lt hr
  have hltw := blk_lt hws
  clear hb hr hws hd hG hF hb1_ hn h1
  go_enter Try.func29, Try.ntmps29
  go_wp2_with (go_at_call 42; (with_reducible refine HI.out.mono ?_); rintro e w2 ⟨rfl, hT⟩; have HT2 := Aside0.mk hT; clear hT)
  refine bodyPost_end (v := .tuple #[]) (by simp [results, Try.results29, go_sem]) rfl ⟨rfl, HT2.out.1, (Tr.of_below HB1.out (one g)).trans HT2.out.2⟩
set_option maxHeartbeats 4000000 in
set_option maxRecDepth 100000 in
theorem rins6_neg (AG : Option Addr) (cG : Nat) (GS : List S57) (AF : Option Addr) (cF : Nat) (F : List S47) (db cD : Nat) (iv : Value) (fuel : Int) (c va : Int) (tv : Value) (st rd : Nat) (W : World) (g : Nat) (hb : W.heap[g]? = some (.cells (rC (rE AG cG GS AF cF F db cD iv fuel) ⟨c, 0, va, tv, st, rd⟩) 61 (0, 0))) (hG : Kd.C k57 W AG GS.length GS) (hcG : GS.length ≤ cG) (hF : Kd.C k47 W AF F.length F) (hcF : F.length ≤ cF) (hfew : GS.length ≤ 1000) (rb : Nat) (regs : List Int) (n : Nat) (hn : regs.length = n) (hr : W.heap[rb]? = some (.cells (row32 regs) 21 (0, 0))) (op D A B num : Int) (nm : ByteArray) (av : Value) (hav : av.oneCell' = true) (hgi : glAt GS nm < GS.length) (wb : Nat) (ws : List Int) (hd : W.cell? ⟨db, glAt GS nm, none⟩ = some (.slice (some ⟨wb, 0, none⟩) ws.length ws.length)) (hws : W.heap[wb]? = some (.cells (row32 ws) 21 (0, 0))) (hcD : GS.length ≤ cD) (hwl : ws.length ≤ 1000000) (hx3 : A < 0) (hw : 0 < ws.length) (hB0 : 0 ≤ B) (hB1 : B < n) :
    Calls Try.prog 29 #[.pointer (some ⟨g, 0, none⟩), .slice (some ⟨rb, 0, none⟩) n n, .agg #[.int .i64 6, .int .i64 op, .int .i64 D, .int .i64 A, .int .i64 B, .int .i32 num, .string nm, av]] W fun e w' => e = .returned (.tuple #[]) ∧ Turned W w' wb (row32 (put32 ws 0 (get32 regs B))) 21 := by
  have hb1_ : Below W.heap.size W (W.alloc (.cells #[.int .i64 6, .int .i64 op, .int .i64 D, .int .i64 A, .int .i64 B, .int .i32 num, .string nm, av] 44)) := below_alloc (Below.refl _ _) _
  have HI : Aside0 (Calls Try.prog 42 #[.pointer (some ⟨g, 0, none⟩), .slice (some ⟨rb, 0, none⟩) n n, .agg #[.int .i64 6, .int .i64 op, .int .i64 D, .int .i64 A, .int .i64 B, .int .i32 num, .string nm, av]] (W.alloc (.cells #[.int .i64 6, .int .i64 op, .int .i64 D, .int .i64 A, .int .i64 B, .int .i32 num, .string nm, av] 44)) fun e w' => e = .returned (.tuple #[.int .i64 (glAt GS nm : Int), .int .i64 0, .bool true]) ∧ Below (W.alloc (.cells #[.int .i64 6, .int .i64 op, .int .i64 D, .int .i64 A, .int .i64 B, .int .i32 num, .string nm, av] 44)).heap.size (W.alloc (.cells #[.int .i64 6, .int .i64 op, .int .i64 D, .int .i64 A, .int .i64 B, .int .i32 num, .string nm, av] 44)) w') := ⟨rindex_neg AG cG GS AF cF F db cD iv fuel c va tv st rd (W.alloc (.cells #[.int .i64 6, .int .i64 op, .int .i64 D, .int .i64 A, .int .i64 B, .int .i32 num, .string nm, av] 44)) g (blk_below hb hb1_) (Kd.C_below hG hb1_) hcG (Kd.C_below hF hb1_) hcF hfew rb regs n hn (blk_below hr hb1_) ⟨6, op, D, A, B, num, nm, []⟩ av hav hgi wb ws.length (pw_cell_below hb1_ hd) hcD hwl hx3 hw⟩
  have HB1 := Aside0.mk hb1_
  have HX1 := Aside0.mk (blk_new W (.cells #[.int .i64 6, .int .i64 op, .int .i64 D, .int .i64 A, .int .i64 B, .int .i32 num, .string nm, av] 44))
  have HB := Aside0.mk hb
  have HR := Aside0.mk hr
  have HWS := Aside0.mk hws
  have HD := Aside0.mk hd
  have hltg := blk_lt hb
  have hltr := blk_lt hr
  have hltw := blk_lt hws
  have hgic : (glAt GS nm : Int) < (GS.length : Int) := by omega
  have hw0 : (0 : Int) < (ws.length : Int) := by omega
  have cw : W.cell? ⟨wb, 0, none⟩ = some (.int .i32 (get32 ws 0)) := row32_cell hws 0 (Int.le_refl 0) hw0
  obtain ⟨z, hz⟩ : ∃ z, get32 ws 0 = z := ⟨_, rfl⟩
  rw [hz] at cw
  have cu := row32_cell hr B hB0 (by omega)
  obtain ⟨u, hu⟩ : ∃ u, get32 regs B = u := ⟨_, rfl⟩
  rw [hu] at cu ⊢
  have HCU := Aside0.mk cu
  have hBn : B < (n : Int) := hB1
  have HCW := Aside0.mk cw
  clear cu hu hB1
  obtain ⟨gi, hgi2⟩ : ∃ gi, glAt GS nm = gi := ⟨_, rfl⟩
  rw [hgi2] at HI HD hgi hgic
  clear cw hz hgi2 hb hr hws hd hG hF hb1_ hn
  go_enter Try.func29, Try.ntmps29
  go_wp2_with (go_at_call 42; (with_reducible refine HI.out.mono ?_); rintro e w2 ⟨rfl, hB⟩; have HT2 := Aside0.mk (below_step HB1.out hB); have HX2 := Aside0.mk (blk_below HX1.out hB); clear hB)
  have m2 : w2.cell? ⟨g, 2, none⟩ = some (.slice (some ⟨db, 0, none⟩) GS.length cD) := (blk_cell (blk_below HB.out HT2.out) 2).trans rfl
  have hd2 : w2.cell? ⟨db, gi, none⟩ = some (.slice (some ⟨wb, 0, none⟩) ws.length ws.length) := pw_cell_below HT2.out HD.out
  have cw2 := pw_cell_below HT2.out HCW.out
  have e4 : w2.cell? ⟨W.heap.size, 4, none⟩ = some (.int .i64 B) := (blk_cell HX2.out 4).trans rfl
  have cu2 := pw_cell_below HT2.out HCU.out
  have fw2 : w2.frozen? ⟨wb, 0, none⟩ = false := row32_frozen (blk_below HWS.out HT2.out) 0
  go_still_tail 14, (by kernel_rfl)
  go_wp2
  refine bodyPost_end (v := .tuple #[]) (by simp [results, Try.results29, go_sem]) rfl ⟨rfl, ?_, ?_⟩
  · exact blk_drew (row32_put (blk_below HWS.out HT2.out) 0 u)
  · exact ((Tr.of_below HT2.out (one wb)).set (.inl (one_self wb)) _).drew
set_option maxHeartbeats 4000000 in
set_option maxRecDepth 100000 in
theorem rins6_in (AG : Option Addr) (cG : Nat) (GS : List S57) (AF : Option Addr) (cF : Nat) (F : List S47) (db cD : Nat) (iv : Value) (fuel : Int) (c va : Int) (tv : Value) (st rd : Nat) (W : World) (g : Nat) (hb : W.heap[g]? = some (.cells (rC (rE AG cG GS AF cF F db cD iv fuel) ⟨c, 0, va, tv, st, rd⟩) 61 (0, 0))) (hG : Kd.C k57 W AG GS.length GS) (hcG : GS.length ≤ cG) (hF : Kd.C k47 W AF F.length F) (hcF : F.length ≤ cF) (hfew : GS.length ≤ 1000) (rb : Nat) (regs : List Int) (n : Nat) (hn : regs.length = n) (hr : W.heap[rb]? = some (.cells (row32 regs) 21 (0, 0))) (op D A B num : Int) (nm : ByteArray) (av : Value) (hav : av.oneCell' = true) (hgi : glAt GS nm < GS.length) (wb : Nat) (ws : List Int) (hd : W.cell? ⟨db, glAt GS nm, none⟩ = some (.slice (some ⟨wb, 0, none⟩) ws.length ws.length)) (hws : W.heap[wb]? = some (.cells (row32 ws) 21 (0, 0))) (hcD : GS.length ≤ cD) (hwl : ws.length ≤ 1000000) (h0 : 0 ≤ A) (h1 : A < (n : Int)) (hi0 : 0 ≤ get32 regs A) (hi1 : get32 regs A < (ws.length : Int)) (hB0 : 0 ≤ B) (hB1 : B < n) :
    Calls Try.prog 29 #[.pointer (some ⟨g, 0, none⟩), .slice (some ⟨rb, 0, none⟩) n n, .agg #[.int .i64 6, .int .i64 op, .int .i64 D, .int .i64 A, .int .i64 B, .int .i32 num, .string nm, av]] W fun e w' => e = .returned (.tuple #[]) ∧ Turned W w' wb (row32 (put32 ws (get32 regs A) (get32 regs B))) 21 := by
  have hb1_ : Below W.heap.size W (W.alloc (.cells #[.int .i64 6, .int .i64 op, .int .i64 D, .int .i64 A, .int .i64 B, .int .i32 num, .string nm, av] 44)) := below_alloc (Below.refl _ _) _
  have HI : Aside0 (Calls Try.prog 42 #[.pointer (some ⟨g, 0, none⟩), .slice (some ⟨rb, 0, none⟩) n n, .agg #[.int .i64 6, .int .i64 op, .int .i64 D, .int .i64 A, .int .i64 B, .int .i32 num, .string nm, av]] (W.alloc (.cells #[.int .i64 6, .int .i64 op, .int .i64 D, .int .i64 A, .int .i64 B, .int .i32 num, .string nm, av] 44)) fun e w' => e = .returned (.tuple #[.int .i64 (glAt GS nm : Int), .int .i64 (get32 regs A), .bool true]) ∧ Below (W.alloc (.cells #[.int .i64 6, .int .i64 op, .int .i64 D, .int .i64 A, .int .i64 B, .int .i32 num, .string nm, av] 44)).heap.size (W.alloc (.cells #[.int .i64 6, .int .i64 op, .int .i64 D, .int .i64 A, .int .i64 B, .int .i32 num, .string nm, av] 44)) w') := ⟨rindex_in AG cG GS AF cF F db cD iv fuel c va tv st rd (W.alloc (.cells #[.int .i64 6, .int .i64 op, .int .i64 D, .int .i64 A, .int .i64 B, .int .i32 num, .string nm, av] 44)) g (blk_below hb hb1_) (Kd.C_below hG hb1_) hcG (Kd.C_below hF hb1_) hcF hfew rb regs n hn (blk_below hr hb1_) ⟨6, op, D, A, B, num, nm, []⟩ av hav hgi wb ws.length (pw_cell_below hb1_ hd) hcD hwl h0 h1 hi0 hi1⟩
  have HB1 := Aside0.mk hb1_
  have HX1 := Aside0.mk (blk_new W (.cells #[.int .i64 6, .int .i64 op, .int .i64 D, .int .i64 A, .int .i64 B, .int .i32 num, .string nm, av] 44))
  have HB := Aside0.mk hb
  have HR := Aside0.mk hr
  have HWS := Aside0.mk hws
  have HD := Aside0.mk hd
  have hltg := blk_lt hb
  have hltr := blk_lt hr
  have hltw := blk_lt hws
  have hgic : (glAt GS nm : Int) < (GS.length : Int) := by omega
  have cw := row32_cell hws (get32 regs A) hi0 hi1
  obtain ⟨z, hz⟩ : ∃ z, get32 ws (get32 regs A) = z := ⟨_, rfl⟩
  rw [hz] at cw
  have cu := row32_cell hr B hB0 (by omega)
  obtain ⟨u, hu⟩ : ∃ u, get32 regs B = u := ⟨_, rfl⟩
  rw [hu] at cu ⊢
  have HCU := Aside0.mk cu
  have hBn : B < (n : Int) := hB1
  obtain ⟨v, hv⟩ : ∃ v, get32 regs A = v := ⟨_, rfl⟩
  rw [hv] at cw hi0 hi1 HI ⊢
  have HCW := Aside0.mk cw
  clear cu hu hB1
  obtain ⟨gi, hgi2⟩ : ∃ gi, glAt GS nm = gi := ⟨_, rfl⟩
  rw [hgi2] at HI HD hgi hgic
  clear cw hz hgi2 hb hr hws hd hG hF hb1_ hn h1 hv
  go_enter Try.func29, Try.ntmps29
  go_wp2_with (go_at_call 42; (with_reducible refine HI.out.mono ?_); rintro e w2 ⟨rfl, hB⟩; have HT2 := Aside0.mk (below_step HB1.out hB); have HX2 := Aside0.mk (blk_below HX1.out hB); clear hB)
  have m2 : w2.cell? ⟨g, 2, none⟩ = some (.slice (some ⟨db, 0, none⟩) GS.length cD) := (blk_cell (blk_below HB.out HT2.out) 2).trans rfl
  have hd2 : w2.cell? ⟨db, gi, none⟩ = some (.slice (some ⟨wb, 0, none⟩) ws.length ws.length) := pw_cell_below HT2.out HD.out
  have cw2 := pw_cell_below HT2.out HCW.out
  have e4 : w2.cell? ⟨W.heap.size, 4, none⟩ = some (.int .i64 B) := (blk_cell HX2.out 4).trans rfl
  have cu2 := pw_cell_below HT2.out HCU.out
  have fw2 := row32_frozen (blk_below HWS.out HT2.out) v
  go_still_tail 14, (by kernel_rfl)
  go_wp2
  refine bodyPost_end (v := .tuple #[]) (by simp [results, Try.results29, go_sem]) rfl ⟨rfl, ?_, ?_⟩
  · exact blk_drew (row32_put (blk_below HWS.out HT2.out) v u)
  · exact ((Tr.of_below HT2.out (one wb)).set (.inl (one_self wb)) _).drew
set_option maxHeartbeats 4000000 in
set_option maxRecDepth 100000 in
theorem rins6_low (AG : Option Addr) (cG : Nat) (GS : List S57) (AF : Option Addr) (cF : Nat) (F : List S47) (db cD : Nat) (iv : Value) (fuel : Int) (c va : Int) (tv : Value) (st rd : Nat) (W : World) (g : Nat) (hb : W.heap[g]? = some (.cells (rC (rE AG cG GS AF cF F db cD iv fuel) ⟨c, 0, va, tv, st, rd⟩) 61 (0, 0))) (hG : Kd.C k57 W AG GS.length GS) (hcG : GS.length ≤ cG) (hF : Kd.C k47 W AF F.length F) (hcF : F.length ≤ cF) (hfew : GS.length ≤ 1000) (rb : Nat) (regs : List Int) (n : Nat) (hn : regs.length = n) (hr : W.heap[rb]? = some (.cells (row32 regs) 21 (0, 0))) (op D A B num : Int) (nm : ByteArray) (av : Value) (hav : av.oneCell' = true) (hgi : glAt GS nm < GS.length) (wb : Nat) (ws : List Int) (hd : W.cell? ⟨db, glAt GS nm, none⟩ = some (.slice (some ⟨wb, 0, none⟩) ws.length ws.length)) (hws : W.heap[wb]? = some (.cells (row32 ws) 21 (0, 0))) (hcD : GS.length ≤ cD) (hwl : ws.length ≤ 1000000) (h0 : 0 ≤ A) (h1 : A < (n : Int)) (hi : get32 regs A < 0) (hi2 : -2147483648 ≤ get32 regs A) :
    Calls Try.prog 29 #[.pointer (some ⟨g, 0, none⟩), .slice (some ⟨rb, 0, none⟩) n n, .agg #[.int .i64 6, .int .i64 op, .int .i64 D, .int .i64 A, .int .i64 B, .int .i32 num, .string nm, av]] W fun e w' => e = .returned (.tuple #[]) ∧ Turned W w' g (rC (rE AG cG GS AF cF F db cD iv fuel) ⟨c, 3, va, tv, st, rd⟩) 61 := by
  have hb1_ : Below W.heap.size W (W.alloc (.cells #[.int .i64 6, .int .i64 op, .int .i64 D, .int .i64 A, .int .i64 B, .int .i32 num, .string nm, av] 44)) := below_alloc (Below.refl _ _) _
  have HI : Aside0 (Calls Try.prog 42 #[.pointer (some ⟨g, 0, none⟩), .slice (some ⟨rb, 0, none⟩) n n, .agg #[.int .i64 6, .int .i64 op, .int .i64 D, .int .i64 A, .int .i64 B, .int .i32 num, .string nm, av]] (W.alloc (.cells #[.int .i64 6, .int .i64 op, .int .i64 D, .int .i64 A, .int .i64 B, .int .i32 num, .string nm, av] 44)) fun e w' => e = .returned (.tuple #[.int .i64 0, .int .i64 0, .bool false]) ∧ Turned (W.alloc (.cells #[.int .i64 6, .int .i64 op, .int .i64 D, .int .i64 A, .int .i64 B, .int .i32 num, .string nm, av] 44)) w' g (rC (rE AG cG GS AF cF F db cD iv fuel) ⟨c, 3, va, tv, st, rd⟩) 61) := ⟨rindex_low AG cG GS AF cF F db cD iv fuel c va tv st rd (W.alloc (.cells #[.int .i64 6, .int .i64 op, .int .i64 D, .int .i64 A, .int .i64 B, .int .i32 num, .string nm, av] 44)) g (blk_below hb hb1_) (Kd.C_below hG hb1_) hcG (Kd.C_below hF hb1_) hcF hfew rb regs n hn (blk_below hr hb1_) ⟨6, op, D, A, B, num, nm, []⟩ av hav hgi wb ws.length (pw_cell_below hb1_ hd) hcD hwl h0 h1 hi hi2⟩
  have HB1 := Aside0.mk hb1_
  have HX1 := Aside0.mk (blk_new W (.cells #[.int .i64 6, .int .i64 op, .int .i64 D, .int .i64 A, .int .i64 B, .int .i32 num, .string nm, av] 44))
  have HB := Aside0.mk hb
  have HR := Aside0.mk hr
  have HWS := Aside0.mk hws
  have HD := Aside0.mk hd
  have hltg := blk_lt hb
  have hltr := blk_lt hr
  have hltw := blk_lt hws
  clear hb hr hws hd hG hF hb1_ hn h1
  go_enter Try.func29, Try.ntmps29
  go_wp2_with (go_at_call 42; (with_reducible refine HI.out.mono ?_); rintro e w2 ⟨rfl, hT⟩; have HT2 := Aside0.mk hT; clear hT)
  refine bodyPost_end (v := .tuple #[]) (by simp [results, Try.results29, go_sem]) rfl ⟨rfl, HT2.out.1, (Tr.of_below HB1.out (one g)).trans HT2.out.2⟩
set_option maxHeartbeats 4000000 in
set_option maxRecDepth 100000 in
theorem rins6_high (AG : Option Addr) (cG : Nat) (GS : List S57) (AF : Option Addr) (cF : Nat) (F : List S47) (db cD : Nat) (iv : Value) (fuel : Int) (c va : Int) (tv : Value) (st rd : Nat) (W : World) (g : Nat) (hb : W.heap[g]? = some (.cells (rC (rE AG cG GS AF cF F db cD iv fuel) ⟨c, 0, va, tv, st, rd⟩) 61 (0, 0))) (hG : Kd.C k57 W AG GS.length GS) (hcG : GS.length ≤ cG) (hF : Kd.C k47 W AF F.length F) (hcF : F.length ≤ cF) (hfew : GS.length ≤ 1000) (rb : Nat) (regs : List Int) (n : Nat) (hn : regs.length = n) (hr : W.heap[rb]? = some (.cells (row32 regs) 21 (0, 0))) (op D A B num : Int) (nm : ByteArray) (av : Value) (hav : av.oneCell' = true) (hgi : glAt GS nm < GS.length) (wb : Nat) (ws : List Int) (hd : W.cell? ⟨db, glAt GS nm, none⟩ = some (.slice (some ⟨wb, 0, none⟩) ws.length ws.length)) (hws : W.heap[wb]? = some (.cells (row32 ws) 21 (0, 0))) (hcD : GS.length ≤ cD) (hwl : ws.length ≤ 1000000) (h0 : 0 ≤ A) (h1 : A < (n : Int)) (hi : (ws.length : Int) ≤ get32 regs A) (hi2 : get32 regs A ≤ 2147483647) :
    Calls Try.prog 29 #[.pointer (some ⟨g, 0, none⟩), .slice (some ⟨rb, 0, none⟩) n n, .agg #[.int .i64 6, .int .i64 op, .int .i64 D, .int .i64 A, .int .i64 B, .int .i32 num, .string nm, av]] W fun e w' => e = .returned (.tuple #[]) ∧ Turned W w' g (rC (rE AG cG GS AF cF F db cD iv fuel) ⟨c, 3, va, tv, st, rd⟩) 61 := by
  have hb1_ : Below W.heap.size W (W.alloc (.cells #[.int .i64 6, .int .i64 op, .int .i64 D, .int .i64 A, .int .i64 B, .int .i32 num, .string nm, av] 44)) := below_alloc (Below.refl _ _) _
  have HI : Aside0 (Calls Try.prog 42 #[.pointer (some ⟨g, 0, none⟩), .slice (some ⟨rb, 0, none⟩) n n, .agg #[.int .i64 6, .int .i64 op, .int .i64 D, .int .i64 A, .int .i64 B, .int .i32 num, .string nm, av]] (W.alloc (.cells #[.int .i64 6, .int .i64 op, .int .i64 D, .int .i64 A, .int .i64 B, .int .i32 num, .string nm, av] 44)) fun e w' => e = .returned (.tuple #[.int .i64 0, .int .i64 0, .bool false]) ∧ Turned (W.alloc (.cells #[.int .i64 6, .int .i64 op, .int .i64 D, .int .i64 A, .int .i64 B, .int .i32 num, .string nm, av] 44)) w' g (rC (rE AG cG GS AF cF F db cD iv fuel) ⟨c, 3, va, tv, st, rd⟩) 61) := ⟨rindex_high AG cG GS AF cF F db cD iv fuel c va tv st rd (W.alloc (.cells #[.int .i64 6, .int .i64 op, .int .i64 D, .int .i64 A, .int .i64 B, .int .i32 num, .string nm, av] 44)) g (blk_below hb hb1_) (Kd.C_below hG hb1_) hcG (Kd.C_below hF hb1_) hcF hfew rb regs n hn (blk_below hr hb1_) ⟨6, op, D, A, B, num, nm, []⟩ av hav hgi wb ws.length (pw_cell_below hb1_ hd) hcD hwl h0 h1 hi hi2⟩
  have HB1 := Aside0.mk hb1_
  have HX1 := Aside0.mk (blk_new W (.cells #[.int .i64 6, .int .i64 op, .int .i64 D, .int .i64 A, .int .i64 B, .int .i32 num, .string nm, av] 44))
  have HB := Aside0.mk hb
  have HR := Aside0.mk hr
  have HWS := Aside0.mk hws
  have HD := Aside0.mk hd
  have hltg := blk_lt hb
  have hltr := blk_lt hr
  have hltw := blk_lt hws
  clear hb hr hws hd hG hF hb1_ hn h1
  go_enter Try.func29, Try.ntmps29
  go_wp2_with (go_at_call 42; (with_reducible refine HI.out.mono ?_); rintro e w2 ⟨rfl, hT⟩; have HT2 := Aside0.mk hT; clear hT)
  refine bodyPost_end (v := .tuple #[]) (by simp [results, Try.results29, go_sem]) rfl ⟨rfl, HT2.out.1, (Tr.of_below HB1.out (one g)).trans HT2.out.2⟩
end Go.Proofs.Ytabkinlpbefjgaa.L

namespace Go.Proofs.Ytabkinlpbefjgaa.L
open Go.RowKit Go.Proofs.Ytabkinlpbefjgaa.X Go.Proofs.YtabkinlpbefjgaaW.PrintWords Go.Proofs.YtabkinlpbefjgaaW.PrintLast Go.Proofs.YtabkinlpbefjgaaW.PrintMore
attribute [local go_sem] max2_int min2_int max_two min_two max_three min_three max_four min_four   -- for this text's walks alone
set_option linter.unusedVariables false
set_option linter.unusedSimpArgs false
open Go.Proofs.Ytabkinlpbefjgaa.Pure
theorem put32_twice (l : List Int) (i a b : Int) : put32 (put32 l i a) i b = put32 l i b := by unfold put32; rw [List.set_set]
set_option maxHeartbeats 4000000 in
set_option maxRecDepth 100000 in
theorem rins_read_no (rb : Nat) (regs : List Int) (n : Nat) (hn : regs.length = n) (W : World) (g : Nat) (E : RE) (c va : Int) (tv : Value) (st rd : Nat) (hb : W.heap[g]? = some (.cells (rC E ⟨c, 0, va, tv, st, rd⟩) 61 (0, 0))) (AI : Option Addr) (cI : Nat) (inp : List Int) (hiv : E.iv = .slice AI inp.length cI) (hI : (Kd.int .i32).C W AI inp.length inp) (hlen : inp.length ≤ 1000000) (hgr : g ≠ rb) (hr : W.heap[rb]? = some (.cells (row32 regs) 21 (0, 0)))
    (op D A B num : Int) (nm : ByteArray) (av : Value) (hav : av.oneCell' = true) (hD0 : 0 ≤ D) (hD1 : D < n) (hrd : ¬ rd < inp.length) :
    Calls Try.prog 29 #[.pointer (some ⟨g, 0, none⟩), .slice (some ⟨rb, 0, none⟩) n n, .agg #[.int .i64 8, .int .i64 op, .int .i64 D, .int .i64 A, .int .i64 B, .int .i32 num, .string nm, av]] W fun e w' => e = .returned (.tuple #[]) ∧ Turned W w' rb (row32 (put32 regs D 0)) 21 := by
  have hltr := blk_lt hr
  have HR := Aside0.mk hr
  have HB := Aside0.mk hb
  have hltb := blk_lt hb
  have cd := row32_cell hr D hD0 (by omega)
  have fcd := row32_frozen hr D
  obtain ⟨z, hz⟩ : ∃ z, get32 regs D = z := ⟨_, rfl⟩
  rw [hz] at cd
  have d1 : decide ((rd : Int) < (inp.length : Int)) = false := decide_eq_false (by omega)
  have d2 : decide (rd < inp.length) = false := decide_eq_false hrd
  have HN := Aside0.mk hn
  obtain ⟨gv, fv, dv, iv, fuel⟩ := E
  obtain rfl : iv = _ := hiv
  clear hb hr hn hz hI
  go_enter Try.func29, Try.ntmps29
  go_wp2
  have HT1 : Aside0 (Tr (one rb) W ((W.setCell ⟨rb, D.toNat, none⟩ (.int .i32 0)).alloc (.cells #[.int .i64 8, .int .i64 op, .int .i64 D, .int .i64 A, .int .i64 B, .int .i32 num, .string nm, av] 44))) := ⟨((Tr.refl (one rb) W).set (.inl (one_self rb)) _).alloc _⟩
  have HR1 : Aside0 (((W.setCell ⟨rb, D.toNat, none⟩ (.int .i32 0)).alloc (.cells #[.int .i64 8, .int .i64 op, .int .i64 D, .int .i64 A, .int .i64 B, .int .i32 num, .string nm, av] 44)).heap[rb]? = some (.cells (row32 (put32 regs D 0)) 21 (0, 0))) := ⟨blk_alloc (row32_put HR.out D 0) _⟩
  have HX1 : Aside0 (((W.setCell ⟨rb, D.toNat, none⟩ (.int .i32 0)).alloc (.cells #[.int .i64 8, .int .i64 op, .int .i64 D, .int .i64 A, .int .i64 B, .int .i32 num, .string nm, av] 44)).heap[W.heap.size]? = some (.cells #[.int .i64 8, .int .i64 op, .int .i64 D, .int .i64 A, .int .i64 B, .int .i32 num, .string nm, av] 44 (0, 0))) := ⟨by simpa [World.setCell] using blk_new (W.setCell ⟨rb, D.toNat, none⟩ (.int .i32 0)) (.cells #[.int .i64 8, .int .i64 op, .int .i64 D, .int .i64 A, .int .i64 B, .int .i32 num, .string nm, av] 44)⟩
  generalize ((W.setCell ⟨rb, D.toNat, none⟩ (.int .i32 0)).alloc (.cells #[.int .i64 8, .int .i64 op, .int .i64 D, .int .i64 A, .int .i64 B, .int .i32 num, .string nm, av] 44)) = w1 at HT1 HR1 HX1 ⊢
  have hb1 := HT1.out.blk HB.out hgr
  have c3 : w1.cell? ⟨g, 3, none⟩ = some (.slice AI inp.length cI) := (blk_cell hb1 3).trans rfl
  have c10 : w1.cell? ⟨g, 10, none⟩ = some (.int .i64 (rd : Int)) := (blk_cell hb1 10).trans rfl
  have HB1 := Aside0.mk hb1
  clear cd fcd hb1
  go_quiet (fail)
  go_wp2
  refine bodyPost_end (v := .tuple #[]) (by simp [results, Try.results29, go_sem]) rfl ⟨rfl, blk_drewN HR1.out _, HT1.out.drewN _⟩
set_option maxHeartbeats 4000000 in
set_option maxRecDepth 100000 in
theorem rins_read_yes (rb : Nat) (regs : List Int) (n : Nat) (hn : regs.length = n) (W : World) (g : Nat) (E : RE) (c va : Int) (tv : Value) (st rd : Nat) (hb : W.heap[g]? = some (.cells (rC E ⟨c, 0, va, tv, st, rd⟩) 61 (0, 0))) (AI : Option Addr) (cI : Nat) (inp : List Int) (hiv : E.iv = .slice AI inp.length cI) (hI : (Kd.int .i32).C W AI inp.length inp) (hlen : inp.length ≤ 1000000) (hgr : g ≠ rb) (hr : W.heap[rb]? = some (.cells (row32 regs) 21 (0, 0)))
    (op D A B num : Int) (nm : ByteArray) (av : Value) (hav : av.oneCell' = true) (hD0 : 0 ≤ D) (hD1 : D < n) (hrd : rd < inp.length) (hrb : ∀ ad, AI = some ad → ad.block ≠ rb) :
    Calls Try.prog 29 #[.pointer (some ⟨g, 0, none⟩), .slice (some ⟨rb, 0, none⟩) n n, .agg #[.int .i64 8, .int .i64 op, .int .i64 D, .int .i64 A, .int .i64 B, .int .i32 num, .string nm, av]] W fun e w' => e = .returned (.tuple #[]) ∧ w'.heap[g]? = some (.cells (rC E ⟨c, 0, va, tv, st, rd + 1⟩) 61 (0, 0)) ∧ w'.heap[rb]? = some (.cells (row32 (put32 regs D (inp.getD rd 0))) 21 (0, 0)) ∧ Tr (fun q => q = g ∨ q = rb) W w' := by
  have hltr := blk_lt hr
  have HR := Aside0.mk hr
  have HB := Aside0.mk hb
  have hltb := blk_lt hb
  have cd := row32_cell hr D hD0 (by omega)
  have fcd := row32_frozen hr D
  obtain ⟨z, hz⟩ : ∃ z, get32 regs D = z := ⟨_, rfl⟩
  rw [hz] at cd
  obtain ⟨ad, hA, hcell⟩ := Kd.at_int hI (rd : Int) (by omega) (by omega)
  subst hA
  have hadr : ad.block ≠ rb := hrb ad rfl
  have hcell2 : W.cell? (ad.add rd) = some (.int .i32 (inp.getD rd 0)) := by
    rw [Int.toNat_natCast] at hcell
    rw [hcell]
    show some (Value.int .i32 (inp.getD ((rd : Int)).toNat 0)) = _
    rw [Int.toNat_natCast]
  obtain ⟨y, hy⟩ : ∃ y, inp.getD rd 0 = y := ⟨_, rfl⟩
  rw [hy] at hcell2 ⊢
  have HC2 := Aside0.mk hcell2
  have d1 : decide ((rd : Int) < (inp.length : Int)) = true := decide_eq_true (by omega)
  have d2 : decide (rd < inp.length) = true := decide_eq_true hrd
  have w1_ : wrap64 ((rd : Int) + 1) = ((rd + 1 : Nat) : Int) := by rw [w64 (by omega) (by omega)]; rfl
  clear hcell hcell2 hy
  have HN := Aside0.mk hn
  obtain ⟨gv, fv, dv, iv, fuel⟩ := E
  obtain rfl : iv = _ := hiv
  clear hb hr hn hz hI
  go_enter Try.func29, Try.ntmps29
  go_wp2
  have HT1 : Aside0 (Tr (one rb) W ((W.setCell ⟨rb, D.toNat, none⟩ (.int .i32 0)).alloc (.cells #[.int .i64 8, .int .i64 op, .int .i64 D, .int .i64 A, .int .i64 B, .int .i32 num, .string nm, av] 44))) := ⟨((Tr.refl (one rb) W).set (.inl (one_self rb)) _).alloc _⟩
  have HR1 : Aside0 (((W.setCell ⟨rb, D.toNat, none⟩ (.int .i32 0)).alloc (.cells #[.int .i64 8, .int .i64 op, .int .i64 D, .int .i64 A, .int .i64 B, .int .i32 num, .string nm, av] 44)).heap[rb]? = some (.cells (row32 (put32 regs D 0)) 21 (0, 0))) := ⟨blk_alloc (row32_put HR.out D 0) _⟩
  have HX1 : Aside0 (((W.setCell ⟨rb, D.toNat, none⟩ (.int .i32 0)).alloc (.cells #[.int .i64 8, .int .i64 op, .int .i64 D, .int .i64 A, .int .i64 B, .int .i32 num, .string nm, av] 44)).heap[W.heap.size]? = some (.cells #[.int .i64 8, .int .i64 op, .int .i64 D, .int .i64 A, .int .i64 B, .int .i32 num, .string nm, av] 44 (0, 0))) := ⟨by simpa [World.setCell] using blk_new (W.setCell ⟨rb, D.toNat, none⟩ (.int .i32 0)) (.cells #[.int .i64 8, .int .i64 op, .int .i64 D, .int .i64 A, .int .i64 B, .int .i32 num, .string nm, av] 44)⟩
  generalize ((W.setCell ⟨rb, D.toNat, none⟩ (.int .i32 0)).alloc (.cells #[.int .i64 8, .int .i64 op, .int .i64 D, .int .i64 A, .int .i64 B, .int .i32 num, .string nm, av] 44)) = w1 at HT1 HR1 HX1 ⊢
  have hb1 := HT1.out.blk HB.out hgr
  have c3 : w1.cell? ⟨g, 3, none⟩ = some (.slice (some ad) inp.length cI) := (blk_cell hb1 3).trans rfl
  have c10 : w1.cell? ⟨g, 10, none⟩ = some (.int .i64 (rd : Int)) := (blk_cell hb1 10).trans rfl
  have HB1 := Aside0.mk hb1
  clear cd fcd hb1
  go_quiet (fail)
  go_wp2
  have HT2 : Aside0 (Tr (one rb) W (w1.drewN nq)) := ⟨HT1.out.drewN _⟩
  have HR2 : Aside0 ((w1.drewN nq).heap[rb]? = some (.cells (row32 (put32 regs D 0)) 21 (0, 0))) := ⟨blk_drewN HR1.out _⟩
  have HX2 : Aside0 ((w1.drewN nq).heap[W.heap.size]? = some (.cells #[.int .i64 8, .int .i64 op, .int .i64 D, .int .i64 A, .int .i64 B, .int .i32 num, .string nm, av] 44 (0, 0))) := ⟨blk_drewN HX1.out _⟩
  have HB2 := Aside0.mk (blk_drewN HB1.out nq)
  clear c3 c10
  generalize w1.drewN nq = w2 at HT2 HR2 HX2 HB2 ⊢
  have c3 : w2.cell? ⟨g, 3, none⟩ = some (.slice (some ad) inp.length cI) := (blk_cell HB2.out 3).trans rfl
  have c10 : w2.cell? ⟨g, 10, none⟩ = some (.int .i64 (rd : Int)) := (blk_cell HB2.out 10).trans rfl
  have e2 : w2.cell? ⟨W.heap.size, 2, none⟩ = some (.int .i64 D) := (blk_cell HX2.out 2).trans rfl
  have cy := HT2.out.cell HC2.out (show ¬ one rb (ad.add rd).block from fun h => hadr ((add_block ad rd).symm.trans h))
  have cd := row32_cell HR2.out D hD0 (by have h_ := HN.out; rw [put32_length]; omega)
  obtain ⟨z2, hz2⟩ : ∃ z2, get32 (put32 regs D 0) D = z2 := ⟨_, rfl⟩
  rw [hz2] at cd
  clear hz2
  have fcd := row32_frozen HR2.out D
  have fc10 := blk_frozen HB2.out 10
  go_still_tail 15, (by kernel_rfl)
  go_wp2
  refine bodyPost_end (v := .tuple #[]) (by simp [results, Try.results29, go_sem]) rfl ⟨rfl, ?_, ?_, ?_⟩
  · exact blk_drew (blk_put (blk_far HB2.out (by first | exact hgr | exact hgr.symm) _) 10 _ (by simp [rC]))
  · exact blk_drew (blk_far (by have h_ := row32_put HR2.out D y; rw [put32_twice] at h_; exact h_) (by first | exact hgr | exact hgr.symm) _)
  · exact (((HT2.out.mono (fun q hq => .inr hq)).set (S := fun q => q = g ∨ q = rb) (.inl (.inr rfl)) _).set (.inl (.inl rfl)) _).drew
def RPrintPost (W : World) (g base : Nat) (ok : Nat → Prop) (E : RE) (c va : Int) (tv : Value) (st rd : Nat) (tr : List Int) (z : Int) (e : Ending) (w' : World) : Prop :=
  e = .returned (.tuple #[]) ∧ ∃ tv', w'.heap[g]? = some (.cells (rC E ⟨c, 0, va, tv', st, rd⟩) 61 (0, 0)) ∧ (Kd.int .i32).R 21 w' base ok tv' (tr ++ [z]) ∧ (tv'.ownBlock = tv.ownBlock ∨ ∃ b, tv'.ownBlock = some b ∧ W.heap.size ≤ b) ∧ Tr (fun q => q = g ∨ some q = tv.ownBlock) W w'
set_option maxHeartbeats 4000000 in
set_option maxRecDepth 100000 in
theorem rins_print (rb : Nat) (regs : List Int) (n : Nat) (hn : regs.length = n) (W : World) (g : Nat) (E : RE) (c va : Int) (tv : Value) (st rd : Nat) (hb : W.heap[g]? = some (.cells (rC E ⟨c, 0, va, tv, st, rd⟩) 61 (0, 0))) (hr : W.heap[rb]? = some (.cells (row32 regs) 21 (0, 0)))
    (op D A B num : Int) (nm : ByteArray) (av : Value) (hav : av.oneCell' = true) (hA0 : 0 ≤ A) (hA1 : A < n) (base : Nat) (ok : Nat → Prop) (tr : List Int) (hT : (Kd.int .i32).R 21 W base ok tv tr) (hbase : base ≤ W.heap.size) (hbg : base ≤ g) (hfresh : ∀ k, W.heap.size ≤ k → ok k) (hokg : ∀ k, ok k → k ≠ g) (hlen : tr.length ≤ 1000000) :
    Calls Try.prog 29 #[.pointer (some ⟨g, 0, none⟩), .slice (some ⟨rb, 0, none⟩) n n, .agg #[.int .i64 9, .int .i64 op, .int .i64 D, .int .i64 A, .int .i64 B, .int .i32 num, .string nm, av]] W fun e w' => RPrintPost W g base ok E c va tv st rd tr (get32 regs A) e w' := by
  have hltr := blk_lt hr
  have HR := Aside0.mk hr
  have cd := row32_cell hr A hA0 (by omega)
  have fcd := row32_frozen hr A
  obtain ⟨y, hy⟩ : ∃ y, get32 regs A = y := ⟨_, rfl⟩
  rw [hy] at cd ⊢
  have HCD := Aside0.mk cd
  have hltg := blk_lt hb
  have HG := Aside0.mk hb
  have HT := Aside0.mk hT
  have HF := Aside0.mk hfresh
  have HOK := Aside0.mk hokg
  clear hr hn hy cd fcd hb hT hfresh hokg
  go_enter Try.func29, Try.ntmps29
  go_upto_region 38 with fail
  have ht1 : Tr nil_ W (W.alloc (.cells #[.int .i64 9, .int .i64 op, .int .i64 D, .int .i64 A, .int .i64 B, .int .i32 num, .string nm, av] 44)) := (Tr.refl nil_ W).alloc _
  have hx1 : (W.alloc (.cells #[.int .i64 9, .int .i64 op, .int .i64 D, .int .i64 A, .int .i64 B, .int .i32 num, .string nm, av] 44)).heap[W.heap.size]? = some (.cells #[.int .i64 9, .int .i64 op, .int .i64 D, .int .i64 A, .int .i64 B, .int .i32 num, .string nm, av] 44 (0, 0)) := blk_new _ _
  generalize W.alloc (.cells #[.int .i64 9, .int .i64 op, .int .i64 D, .int .i64 A, .int .i64 B, .int .i32 num, .string nm, av] 44) = w1 at ht1 hx1 ⊢
  have ed := ht1.cell HCD.out (fun h => h)
  have hg1 := ht1.blk HG.out (fun h => h)
  have c8 : w1.cell? ⟨g, 8, none⟩ = some tv := (blk_cell hg1 8).trans rfl
  have e3 : w1.cell? ⟨W.heap.size, 3, none⟩ = some (.int .i64 A) := (blk_cell hx1 3).trans rfl
  have HT1 := Aside0.mk ht1
  have HG1 := Aside0.mk hg1
  have HSZ := Aside0.mk ht1.size
  have HNE := Aside0.mk (show some g ≠ tv.ownBlock from fun h => HOK.out g (HT.out.1 g h.symm) rfl)
  clear ht1 hx1 hg1
  refine start_ (n := 17) (S := fun w_ => w_.cell? ⟨W.heap.size, 3, none⟩ = some (.int .i64 A) ∧ w_.cell? ⟨rb, A.toNat, none⟩ = some (.int .i32 y) ∧ w_.cell? ⟨g, 8, none⟩ = some tv) (ds := [12, 16]) #[false, false, false, false, false, false, false, false, false, false, false, false, false, false, false, false, false] (by kernel_rfl) rfl rfl ⟨e3, ed, c8⟩ (fun hHeld => ?_)
  refine pure_ (i := 0) (N := some 211) (v := ?_) (a' := ?_) #[true, false, false, false, false, false, false, false, false, false, false, false, false, false, false, false, false] rfl rfl (by kernel_rfl) (fun _ _ _ h => h) (Or.inl ⟨by rfl, ?_⟩) ?_ ?_
  rotate_left
  · intro w'
    go_simp
    with_reducible rfl
  rotate_left
  · simp only [ps_]
    rfl
  refine pure_ (i := 1) (N := some 212) (v := ?_) (a' := ?_) #[true, true, false, false, false, false, false, false, false, false, false, false, false, false, false, false, false] rfl rfl (by kernel_rfl) (fun _ _ _ h => h) (Or.inl ⟨by rfl, ?_⟩) ?_ ?_
  rotate_left
  · intro w'
    go_simp
    with_reducible rfl
  rotate_left
  · simp only [ps_]
    rfl
  refine pure_ (i := 2) (N := some 213) (v := ?_) (a' := ?_) #[true, true, true, false, false, false, false, false, false, false, false, false, false, false, false, false, false] rfl rfl (by kernel_rfl) (fun _ _ _ h => h) (Or.inl ⟨by rfl, ?_⟩) ?_ ?_
  rotate_left
  · intro w'
    go_simp
    with_reducible rfl
  rotate_left
  · simp only [ps_]
    rfl
  refine pure_ (i := 3) (N := some 214) (v := ?_) (a' := ?_) #[true, true, true, true, false, false, false, false, false, false, false, false, false, false, false, false, false] rfl rfl (by kernel_rfl) (fun _ _ _ h => h) (Or.inl ⟨by rfl, ?_⟩) ?_ ?_
  rotate_left
  · intro w'
    go_simp
    with_reducible rfl
  rotate_left
  · simp only [ps_]
    rfl
  refine pure_ (i := 4) (N := some 215) (v := ?_) (a' := ?_) #[true, true, true, true, true, false, false, false, false, false, false, false, false, false, false, false, false] rfl rfl (by kernel_rfl) (fun _ _ _ h => h) (Or.inl ⟨by rfl, ?_⟩) ?_ ?_
  rotate_left
  · intro w'
    go_simp
    with_reducible rfl
  rotate_left
  · simp only [ps_]
    rfl
  refine take_ (i := 5) (N := some 216) (v := ?_) (a' := ?_) #[true, true, true, true, true, true, false, false, false, false, false, false, false, false, false, false, false] rfl rfl (by kernel_rfl) (fun _ _ _ h => h) (Or.inl ⟨by rfl, ?_⟩) hHeld ?_ ?_
  rotate_left
  · rintro w' ⟨h0_, h1_, h2_⟩
    go_simp
    with_reducible rfl
  rotate_left
  · simp only [ps_]
    rfl
  refine pure_ (i := 6) (N := some 217) (v := ?_) (a' := ?_) #[true, true, true, true, true, true, true, false, false, false, false, false, false, false, false, false, false] rfl rfl (by kernel_rfl) (fun _ _ _ h => h) (Or.inl ⟨by rfl, ?_⟩) ?_ ?_
  rotate_left
  · intro w'
    go_simp
    with_reducible rfl
  rotate_left
  · simp only [ps_]
    rfl
  refine pure_ (i := 7) (N := some 218) (v := ?_) (a' := ?_) #[true, true, true, true, true, true, true, true, false, false, false, false, false, false, false, false, false] rfl rfl (by kernel_rfl) (fun _ _ _ h => h) (Or.inl ⟨by rfl, ?_⟩) ?_ ?_
  rotate_left
  · intro w'
    go_simp
    with_reducible rfl
  rotate_left
  · simp only [ps_]
    rfl
  refine take_ (i := 8) (N := some 219) (v := ?_) (a' := ?_) #[true, true, true, true, true, true, true, true, true, false, false, false, false, false, false, false, false] rfl rfl (by kernel_rfl) (fun _ _ _ h => h) (Or.inl ⟨by rfl, ?_⟩) hHeld ?_ ?_
  rotate_left
  · rintro w' ⟨h0_, h1_, h2_⟩
    go_simp
    with_reducible rfl
  rotate_left
  · simp only [ps_]
    rfl
  refine pure_ (i := 9) (N := some 220) (v := ?_) (a' := ?_) #[true, true, true, true, true, true, true, true, true, true, false, false, false, false, false, false, false] rfl rfl (by kernel_rfl) (fun _ _ _ h => h) (Or.inl ⟨by rfl, ?_⟩) ?_ ?_
  rotate_left
  · intro w'
    go_simp
    with_reducible rfl
  rotate_left
  · simp only [ps_]
    rfl
  refine take_ (i := 10) (N := some 221) (v := ?_) (a' := ?_) #[true, true, true, true, true, true, true, true, true, true, true, false, false, false, false, false, false] rfl rfl (by kernel_rfl) (fun _ _ _ h => h) (Or.inl ⟨by rfl, ?_⟩) hHeld ?_ ?_
  rotate_left
  · rintro w' ⟨h0_, h1_, h2_⟩
    go_simp
    with_reducible rfl
  rotate_left
  · simp only [ps_]
    rfl
  refine one_ (i := 11) (N := some 222) #[true, true, true, true, true, true, true, true, true, true, true, true, false, false, false, false, false] rfl rfl (by kernel_rfl) (by decide) (fun K hK => ?_)
  rw [if_pos (by rfl)]
  go_simp
  refine hK.out _ _ (⟨AL1 e3, AL1 ed, AL1 c8⟩) (fun hHeld => ?_)
  clear hK K
  refine last_ (i := 12) (N := some 223) #[true, true, true, true, true, true, true, true, true, true, true, true, true, false, false, false, false] rfl rfl (by kernel_rfl) (by decide) (fun K hK => ?_)
  rw [show (w1.alloc (Obj.cells #[Value.int IntKind.i32 y] 21)).drew = w1.drew.alloc (.cells [Value.int .i32 y].toArray 21) from rfl]
  refine Kd.R_append_step (Kd.int .i32) (w0 := w1.drew) base rfl (.tmp 216) (.tmp 222) 26 21 (.int .i32 0) 4 rfl Try.underlying26 info21 rfl (by decide) (by decide) tv tr y [.int .i32 y] ok (fun _ => False) rfl rfl rfl (fun _ h => h.elim) (fun k hk => HF.out k (Nat.le_trans HSZ.out hk)) (Kd.R_drew (Kd.R_step HT.out (fun k _ hk => HT1.out.keep k hk (fun h => h)))) (Below.refl _ _) (Nat.le_trans hbase HSZ.out) (by omega) ?_
  intro v9 w9 hR9 hb9 hg9 hat9
  obtain ⟨A9, c9, rfl⟩ := Kd.R_slice hR9
  have HR9 := Aside0.mk hR9
  have HG9 := Aside0.mk hg9
  have HAT9 := Aside0.mk hat9
  clear hR9 hb9 hg9 hat9
  refine hK.out _ _ ?_
  clear hK K
  refine norm_ (a' := ?_) ?_ ?_
  rotate_left
  · show Act.put _ (some 223) _ = _
    simp only [ps_]
    rfl
  refine pure_ (i := 13) (N := some 224) (v := ?_) (a' := ?_) #[true, true, true, true, true, true, true, true, true, true, true, true, true, true, false, false, false] rfl rfl (by kernel_rfl) (fun _ _ _ h => h) (Or.inl ⟨by rfl, ?_⟩) ?_ ?_
  rotate_left
  · intro w'
    go_simp
    with_reducible rfl
  rotate_left
  · simp only [ps_]
    rfl
  refine pure_ (i := 14) (N := some 225) (v := ?_) (a' := ?_) #[true, true, true, true, true, true, true, true, true, true, true, true, true, true, true, false, false] rfl rfl (by kernel_rfl) (fun _ _ _ h => h) (Or.inl ⟨by rfl, ?_⟩) ?_ ?_
  rotate_left
  · intro w'
    go_simp
    with_reducible rfl
  rotate_left
  · simp only [ps_]
    rfl
  refine pure_ (i := 15) (N := some 226) (v := ?_) (a' := ?_) #[true, true, true, true, true, true, true, true, true, true, true, true, true, true, true, true, false] rfl rfl (by kernel_rfl) (fun _ _ _ h => h) (Or.inl ⟨by rfl, ?_⟩) ?_ ?_
  rotate_left
  · intro w'
    go_simp
    with_reducible rfl
  rotate_left
  · simp only [ps_]
    rfl
  refine last_ (i := 16) (N := none) #[true, true, true, true, true, true, true, true, true, true, true, true, true, true, true, true, true] rfl rfl (by kernel_rfl) (by decide) (fun K hK => ?_)
  have hh9 := blk_grown (w := w1.drew) (blk_drew HG1.out) HG9.out HNE.out
  have c97 : w9.cell? ⟨g, 8, none⟩ = some tv := (blk_cell hh9 8).trans rfl
  have f97 := blk_frozen hh9 8
  have HH9 := Aside0.mk hh9
  clear hh9
  rw [if_pos (by rfl)]
  go_simp
  refine hK.out _ _ ?_
  clear hK K
  refine done_ (by kernel_rfl) ?_
  go_wp2
  refine bodyPost_end (v := .tuple #[]) (by simp [results, Try.results29, go_sem]) rfl ⟨rfl, _, ?_, Kd.R_far (p := ⟨g, 8, none⟩) HR9.out (fun k hk => HOK.out k hk) _, ?_, ?_⟩
  · exact blk_put HH9.out 8 _ (by simp [rC])
  · exact HAT9.out.imp id (fun ⟨b, h1, h2⟩ => ⟨b, h1, Nat.le_trans HSZ.out h2⟩)
  · exact (((HT1.out.drew).mono (fun q hq => hq.elim)).grown HG9.out (fun k hk => .inl (.inr hk.symm))).set (S := fun q => q = g ∨ some q = tv.ownBlock) (.inl (.inl rfl)) _
end Go.Proofs.Ytabkinlpbefjgaa.L

namespace Go.Proofs.Ytabkinlpbefjgaa.L
open Go.RowKit Go.Proofs.Ytabkinlpbefjgaa.X Go.Proofs.YtabkinlpbefjgaaW.PrintWords Go.Proofs.YtabkinlpbefjgaaW.PrintLast Go.Proofs.YtabkinlpbefjgaaW.PrintMore
attribute [local go_sem] max2_int min2_int max_two min_two max_three min_three max_four min_four   -- for this text's walks alone
set_option linter.unusedVariables false
set_option linter.unusedSimpArgs false
open Go.Proofs.Ytabkinlpbefjgaa.Pure
section
variable {α : Type} (nm : α → List UInt8) (d : α)
variable {nm d}
theorem getD_at {L : List α} {i : Nat} (h : i < L.length) : L.getD i d = L[i] := by rw [List.getD_eq_getElem?_getD, List.getElem?_eq_getElem h]; rfl
end
structure GlR (GS GS' : List S57) (G G' : Gl) : Prop where
  tr : G'.tr = G.tr
  st : G'.st = G.st
  rd : G'.rd = G.rd
  len : G.words.length = GS.length
  len2 : G'.words.length = GS'.length
  words : ∀ n, glAt GS n < GS.length → G'.words.getD (glAt GS' n) [] = G.words.getD (glAt GS n) []
theorem GlR.tick {GS GS' : List S57} {G G' : Gl} (h : GlR GS GS' G G') : GlR GS GS' G.tick G'.tick := ⟨h.tr, congrArg (· + 1) h.st, h.rd, h.len, h.len2, h.words⟩
structure FrR (F F' : List S47) (a b : Fr) : Prop where
  fn : fnOf F' b.fn = fnOf F a.fn
  regs : b.regs = a.regs
  blk : b.blk = a.blk
  ins : b.ins = a.ins
  d : b.d = a.d
def StR (F F' : List S47) : List Fr → List Fr → Prop
  | [], [] => True
  | a :: q, b :: r => FrR F F' a b ∧ StR F F' q r
  | _, _ => False
theorem StR.length {F F' : List S47} : ∀ {q r : List Fr}, StR F F' q r → r.length = q.length
  | [], [], _ => rfl
  | a :: q, b :: r, h => congrArg (· + 1) (StR.length h.2)
theorem set_getD {l : List (List Int)} {i j : Nat} {v : List Int} (hi : i < l.length) (hj : j < l.length) : (l.set i v).getD j [] = if i = j then v else l.getD j [] := by
  rw [getD_at (by rw [List.length_set]; exact hj), List.getElem_set, getD_at hj]
end Go.Proofs.Ytabkinlpbefjgaa.L

