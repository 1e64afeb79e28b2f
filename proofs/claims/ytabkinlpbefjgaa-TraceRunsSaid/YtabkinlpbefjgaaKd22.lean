/- Texts of this seat that a claim bears, put together by this session's own program shake.py: TrRj, TrRk, TrS, TrT, TrU, TrV. -/
import Derived.Test.YtabkinlpbefjgaaKd21
namespace Go.Proofs.Ytabkinlpbefjgaa.L
open Go.RowKit Go.Proofs.Ytabkinlpbefjgaa.X Go.Proofs.YtabkinlpbefjgaaW.PrintWords Go.Proofs.YtabkinlpbefjgaaW.PrintLast Go.Proofs.YtabkinlpbefjgaaW.PrintMore
attribute [local go_sem] max2_int min2_int max_two min_two max_three min_three max_four min_four   -- for this text's walks alone
set_option linter.unusedVariables false
set_option linter.unusedSimpArgs false
open Go.Proofs.Ytabkinlpbefjgaa.Pure
set_option maxHeartbeats 4000000 in
set_option maxRecDepth 100000 in
theorem rins_call_neg (rb : Nat) (regs : List Int) (n : Nat) (hn : regs.length = n) (W : World) (g : Nat) (hr : W.heap[rb]? = some (.cells (row32 regs) 21 (0, 0)))
    (op D A B num : Int) (nm : ByteArray) (A7 : Option Addr) (k7 c7 : Nat) (hk7 : k7 ≤ c7) (ixs : List Int) (hx : (Kd.int .i64).C W A7 k7 ixs) (hix : ∀ i ∈ ixs, 0 ≤ i ∧ i < n) (hk8 : k7 ≤ 8) (hD : D < 0) (P : Int → World → Prop)
    (hE : ∀ w1 A c, Tr nil_ W w1 → (Kd.int .i32).C w1 A k7 (ixs.map (get32 regs)) → k7 ≤ c → Calls Try.prog 18 #[.pointer (some ⟨g, 0, none⟩), .string nm, .slice A k7 c] w1 fun e w' => ∃ v, e = .returned (.int .i32 v) ∧ P v w' ∧ w'.heap[rb]? = some (.cells (row32 regs) 21 (0, 0)) ∧ ∀ o, w1.heap[W.heap.size]? = some o → w'.heap[W.heap.size]? = some o) :
    Calls Try.prog 29 #[.pointer (some ⟨g, 0, none⟩), .slice (some ⟨rb, 0, none⟩) n n, .agg #[.int .i64 7, .int .i64 op, .int .i64 D, .int .i64 A, .int .i64 B, .int .i32 num, .string nm, .slice A7 k7 c7]] W fun e w2 => e = .returned (.tuple #[]) ∧ ∃ v w', P v w' ∧ w2 = w' := by
  have hltr := blk_lt hr
  have HR := Aside0.mk hr
  have HX := Aside0.mk hx
  have HXL := Aside0.mk hx.1
  have HIX := Aside0.mk hix
  have HE := Aside0.mk hE
  have HN := Aside0.mk hn
  have d1 : decide (D ≥ 0) = false := decide_eq_false (by omega)
  have d2 : decide (0 ≤ D) = false := decide_eq_false (by omega)
  clear hr hn hE hx hix
  go_enter Try.func29, Try.ntmps29
  go_wp2
  have ht1 : Tr nil_ W (W.alloc (.cells #[.int .i64 7, .int .i64 op, .int .i64 D, .int .i64 A, .int .i64 B, .int .i32 num, .string nm, .slice A7 k7 c7] 44)) := (Tr.refl nil_ W).alloc _
  have hx1 : (W.alloc (.cells #[.int .i64 7, .int .i64 op, .int .i64 D, .int .i64 A, .int .i64 B, .int .i32 num, .string nm, .slice A7 k7 c7] 44)).heap[W.heap.size]? = some (.cells #[.int .i64 7, .int .i64 op, .int .i64 D, .int .i64 A, .int .i64 B, .int .i32 num, .string nm, .slice A7 k7 c7] 44 (0, 0)) := blk_new _ _
  generalize W.alloc (.cells #[.int .i64 7, .int .i64 op, .int .i64 D, .int .i64 A, .int .i64 B, .int .i32 num, .string nm, .slice A7 k7 c7] 44) = w1 at ht1 hx1 ⊢
  have HT1 := Aside0.mk ht1
  have HX1 := Aside0.mk hx1
  clear ht1 hx1
  go_loopg [16, 143] (k7) (fun kq v i wr => ∃ k : Nat, Aside0 (k + kq = k7) ∧ i = .int .i64 (k : Int) ∧ Aside0 ((Kd.int .i32).R 21 wr W.heap.size (fun q => q ≠ W.heap.size) v ((ixs.take k).map (get32 regs))) ∧ Aside0 (Tr nil_ W wr) ∧ Aside0 (wr.heap[W.heap.size]? = some (.cells #[.int .i64 7, .int .i64 op, .int .i64 D, .int .i64 A, .int .i64 B, .int .i32 num, .string nm, .slice A7 k7 c7] 44 (0, 0))))
  case atStart => exact ⟨0, ⟨by omega⟩, rfl, ⟨Kd.R_nil _ _ _ _ _⟩, HT1, HX1⟩
  case round =>
    obtain ⟨k, HK, rfl, HV, HTR, HXR⟩ := hrel
    obtain ⟨A9, c9, rfl⟩ := Kd.R_slice HV.out
    have hlk : ((ixs.take k).map (get32 regs)).length = k := by rw [List.length_map, List.length_take]; have := HK.out; have := HXL.out; omega
    rw [hlk] at HV ⊢
    clear hlk
    by_cases hlt : k < k7
    · cases gk with
      | zero => exact absurd HK.out (by omega)
      | succ q1 =>
        obtain ⟨ad, hA, hcell⟩ := Kd.at_int HX.out (k : Int) (by omega) (by omega)
        rw [Int.toNat_natCast] at hcell
        obtain ⟨z, hz⟩ : ∃ z, rd ixs (k : Int) = z := ⟨_, rfl⟩
        have hmem : rd ixs (k : Int) ∈ ixs := by
          have hl : k < ixs.length := by rw [HXL.out]; exact hlt
          unfold rd
          rw [Int.toNat_natCast, List.getD_eq_getElem?_getD, List.getElem?_eq_getElem hl]
          exact List.getElem_mem hl
        have hsn : ixs.take (k + 1) = ixs.take k ++ [z] := by
          have hl : k < ixs.length := by rw [HXL.out]; exact hlt
          rw [List.take_succ_eq_append_getElem hl, ← hz]
          unfold rd
          rw [Int.toNat_natCast, List.getD_eq_getElem?_getD, List.getElem?_eq_getElem hl]
          rfl
        rw [hz] at hcell hmem
        have hzb := HIX.out z hmem
        have hcr := HTR.out.cell (row32_cell HR.out z hzb.1 (by rw [HN.out]; exact hzb.2)) (fun h => h)
        have hck := HTR.out.cell hcell (fun h => h)
        obtain ⟨hz0, hz1⟩ := hzb
        have HSN := Aside0.mk hsn
        subst hA
        clear hcell hmem hz hsn
        go_wp2_with (first
          | ((with_reducible refine gate_dst (N := 153) rfl ?_)
             refine Kd.R_append (Kd.int .i32) (w0 := wr) W.heap.size rfl (.tmp 147) (.tmp 152) 26 21 (.int .i32 0) 4 rfl Try.underlying26 info21 rfl (by decide) (by decide) _ _ (get32 regs z) [.int .i32 (get32 regs z)] (fun q => q ≠ W.heap.size) (fun _ => False) rfl rfl rfl (fun _ h => h.elim) ?aF HV.out (Below.refl _ _) ?aB ?aL ?_
             case aF => intro q hq; have h_ := blk_lt HXR.out; omega
             case aB => exact HTR.out.size
             case aL => rw [List.length_map, List.length_take]; omega
             intro v9 w9 hR9 hb9 hg9 hat9
             have HG9 := Aside0.mk hg9
             have HR9 := Aside0.mk hR9
             clear hR9 hb9 hg9 hat9)
          | fail)
        go_roundg q1
        case measure => omega
        case rel => exact ⟨k + 1, ⟨by have := HK.out; omega⟩, by go_num, ⟨by rw [HSN.out, List.map_append]; exact HR9.out⟩, ⟨HTR.out.grown HG9.out (fun q hq => .inr (own_ge HV.out q (.inr hq)))⟩, ⟨blk_grown HXR.out HG9.out (fun h => HV.out.1 _ h.symm rfl)⟩⟩
    · obtain rfl : k = k7 := by have := HK.out; omega
      have e6 : wr.cell? ⟨W.heap.size, 6, none⟩ = some (.string nm) := (blk_cell HXR.out 6).trans rfl
      have hrd := Kd.R_reads HV.out
      obtain ⟨A2, c2, hA2, hl2, hC2⟩ := hrd
      rw [List.length_map, List.length_take, HXL.out, Nat.min_self] at hA2 hl2 hC2
      rw [List.take_of_length_le (Nat.le_of_eq HXL.out)] at hC2
      injection hA2 with hA3 _ hc3
      subst hA3 hc3
      have HC2 := Aside0.mk hC2
      have HL2 := Aside0.mk hl2
      clear hC2 hl2
      go_wp2_with (go_at_call 18; (with_reducible refine (HE.out _ _ _ HTR.out HC2.out HL2.out).mono ?_); rintro e w9 ⟨v, rfl, hp, hrow, hbox⟩; have HP := Aside0.mk hp; have HROW := Aside0.mk hrow; have HBX := Aside0.mk (hbox _ HXR.out); have e2 : w9.cell? ⟨W.heap.size, 2, none⟩ = some (.int .i64 D) := (blk_cell HBX.out 2).trans rfl; skip; clear hp hrow hbox)
      exact bodyPost_end (v := .tuple #[]) (by simp [results, Try.results29, go_sem]) rfl ⟨rfl, v, w9, HP.out, rfl⟩
set_option maxHeartbeats 4000000 in
set_option maxRecDepth 100000 in
theorem rins_call_pos (rb : Nat) (regs : List Int) (n : Nat) (hn : regs.length = n) (W : World) (g : Nat) (hr : W.heap[rb]? = some (.cells (row32 regs) 21 (0, 0)))
    (op D A B num : Int) (nm : ByteArray) (A7 : Option Addr) (k7 c7 : Nat) (hk7 : k7 ≤ c7) (ixs : List Int) (hx : (Kd.int .i64).C W A7 k7 ixs) (hix : ∀ i ∈ ixs, 0 ≤ i ∧ i < n) (hk8 : k7 ≤ 8) (hD0 : 0 ≤ D) (hD1 : D < n) (P : Int → World → Prop)
    (hE : ∀ w1 A c, Tr nil_ W w1 → (Kd.int .i32).C w1 A k7 (ixs.map (get32 regs)) → k7 ≤ c → Calls Try.prog 18 #[.pointer (some ⟨g, 0, none⟩), .string nm, .slice A k7 c] w1 fun e w' => ∃ v, e = .returned (.int .i32 v) ∧ P v w' ∧ w'.heap[rb]? = some (.cells (row32 regs) 21 (0, 0)) ∧ ∀ o, w1.heap[W.heap.size]? = some o → w'.heap[W.heap.size]? = some o) :
    Calls Try.prog 29 #[.pointer (some ⟨g, 0, none⟩), .slice (some ⟨rb, 0, none⟩) n n, .agg #[.int .i64 7, .int .i64 op, .int .i64 D, .int .i64 A, .int .i64 B, .int .i32 num, .string nm, .slice A7 k7 c7]] W fun e w2 => e = .returned (.tuple #[]) ∧ ∃ v w', P v w' ∧ Turned w' w2 rb (row32 (put32 regs D v)) 21 := by
  have hltr := blk_lt hr
  have HR := Aside0.mk hr
  have HX := Aside0.mk hx
  have HXL := Aside0.mk hx.1
  have HIX := Aside0.mk hix
  have HE := Aside0.mk hE
  have HN := Aside0.mk hn
  have d1 : decide (D ≥ 0) = true := decide_eq_true hD0
  have d2 : decide (0 ≤ D) = true := decide_eq_true hD0
  clear hr hn hE hx hix
  go_enter Try.func29, Try.ntmps29
  go_wp2
  have ht1 : Tr nil_ W (W.alloc (.cells #[.int .i64 7, .int .i64 op, .int .i64 D, .int .i64 A, .int .i64 B, .int .i32 num, .string nm, .slice A7 k7 c7] 44)) := (Tr.refl nil_ W).alloc _
  have hx1 : (W.alloc (.cells #[.int .i64 7, .int .i64 op, .int .i64 D, .int .i64 A, .int .i64 B, .int .i32 num, .string nm, .slice A7 k7 c7] 44)).heap[W.heap.size]? = some (.cells #[.int .i64 7, .int .i64 op, .int .i64 D, .int .i64 A, .int .i64 B, .int .i32 num, .string nm, .slice A7 k7 c7] 44 (0, 0)) := blk_new _ _
  generalize W.alloc (.cells #[.int .i64 7, .int .i64 op, .int .i64 D, .int .i64 A, .int .i64 B, .int .i32 num, .string nm, .slice A7 k7 c7] 44) = w1 at ht1 hx1 ⊢
  have HT1 := Aside0.mk ht1
  have HX1 := Aside0.mk hx1
  clear ht1 hx1
  go_loopg [16, 143] (k7) (fun kq v i wr => ∃ k : Nat, Aside0 (k + kq = k7) ∧ i = .int .i64 (k : Int) ∧ Aside0 ((Kd.int .i32).R 21 wr W.heap.size (fun q => q ≠ W.heap.size) v ((ixs.take k).map (get32 regs))) ∧ Aside0 (Tr nil_ W wr) ∧ Aside0 (wr.heap[W.heap.size]? = some (.cells #[.int .i64 7, .int .i64 op, .int .i64 D, .int .i64 A, .int .i64 B, .int .i32 num, .string nm, .slice A7 k7 c7] 44 (0, 0))))
  case atStart => exact ⟨0, ⟨by omega⟩, rfl, ⟨Kd.R_nil _ _ _ _ _⟩, HT1, HX1⟩
  case round =>
    obtain ⟨k, HK, rfl, HV, HTR, HXR⟩ := hrel
    obtain ⟨A9, c9, rfl⟩ := Kd.R_slice HV.out
    have hlk : ((ixs.take k).map (get32 regs)).length = k := by rw [List.length_map, List.length_take]; have := HK.out; have := HXL.out; omega
    rw [hlk] at HV ⊢
    clear hlk
    by_cases hlt : k < k7
    · cases gk with
      | zero => exact absurd HK.out (by omega)
      | succ q1 =>
        obtain ⟨ad, hA, hcell⟩ := Kd.at_int HX.out (k : Int) (by omega) (by omega)
        rw [Int.toNat_natCast] at hcell
        obtain ⟨z, hz⟩ : ∃ z, rd ixs (k : Int) = z := ⟨_, rfl⟩
        have hmem : rd ixs (k : Int) ∈ ixs := by
          have hl : k < ixs.length := by rw [HXL.out]; exact hlt
          unfold rd
          rw [Int.toNat_natCast, List.getD_eq_getElem?_getD, List.getElem?_eq_getElem hl]
          exact List.getElem_mem hl
        have hsn : ixs.take (k + 1) = ixs.take k ++ [z] := by
          have hl : k < ixs.length := by rw [HXL.out]; exact hlt
          rw [List.take_succ_eq_append_getElem hl, ← hz]
          unfold rd
          rw [Int.toNat_natCast, List.getD_eq_getElem?_getD, List.getElem?_eq_getElem hl]
          rfl
        rw [hz] at hcell hmem
        have hzb := HIX.out z hmem
        have hcr := HTR.out.cell (row32_cell HR.out z hzb.1 (by rw [HN.out]; exact hzb.2)) (fun h => h)
        have hck := HTR.out.cell hcell (fun h => h)
        obtain ⟨hz0, hz1⟩ := hzb
        have HSN := Aside0.mk hsn
        subst hA
        clear hcell hmem hz hsn
        go_wp2_with (first
          | ((with_reducible refine gate_dst (N := 153) rfl ?_)
             refine Kd.R_append (Kd.int .i32) (w0 := wr) W.heap.size rfl (.tmp 147) (.tmp 152) 26 21 (.int .i32 0) 4 rfl Try.underlying26 info21 rfl (by decide) (by decide) _ _ (get32 regs z) [.int .i32 (get32 regs z)] (fun q => q ≠ W.heap.size) (fun _ => False) rfl rfl rfl (fun _ h => h.elim) ?aF HV.out (Below.refl _ _) ?aB ?aL ?_
             case aF => intro q hq; have h_ := blk_lt HXR.out; omega
             case aB => exact HTR.out.size
             case aL => rw [List.length_map, List.length_take]; omega
             intro v9 w9 hR9 hb9 hg9 hat9
             have HG9 := Aside0.mk hg9
             have HR9 := Aside0.mk hR9
             clear hR9 hb9 hg9 hat9)
          | fail)
        go_roundg q1
        case measure => omega
        case rel => exact ⟨k + 1, ⟨by have := HK.out; omega⟩, by go_num, ⟨by rw [HSN.out, List.map_append]; exact HR9.out⟩, ⟨HTR.out.grown HG9.out (fun q hq => .inr (own_ge HV.out q (.inr hq)))⟩, ⟨blk_grown HXR.out HG9.out (fun h => HV.out.1 _ h.symm rfl)⟩⟩
    · obtain rfl : k = k7 := by have := HK.out; omega
      have e6 : wr.cell? ⟨W.heap.size, 6, none⟩ = some (.string nm) := (blk_cell HXR.out 6).trans rfl
      have hrd := Kd.R_reads HV.out
      obtain ⟨A2, c2, hA2, hl2, hC2⟩ := hrd
      rw [List.length_map, List.length_take, HXL.out, Nat.min_self] at hA2 hl2 hC2
      rw [List.take_of_length_le (Nat.le_of_eq HXL.out)] at hC2
      injection hA2 with hA3 _ hc3
      subst hA3 hc3
      have HC2 := Aside0.mk hC2
      have HL2 := Aside0.mk hl2
      clear hC2 hl2
      go_wp2_with (go_at_call 18; (with_reducible refine (HE.out _ _ _ HTR.out HC2.out HL2.out).mono ?_); rintro e w9 ⟨v, rfl, hp, hrow, hbox⟩; have HP := Aside0.mk hp; have HROW := Aside0.mk hrow; have HBX := Aside0.mk (hbox _ HXR.out); have e2 : w9.cell? ⟨W.heap.size, 2, none⟩ = some (.int .i64 D) := (blk_cell HBX.out 2).trans rfl; have cd := row32_cell HROW.out D hD0 (by have h_ := HN.out; omega); have fd := row32_frozen HROW.out D; obtain ⟨zd, hzd⟩ : ∃ zd, get32 regs D = zd := ⟨_, rfl⟩; rw [hzd] at cd; clear hzd; clear hp hrow hbox)
      exact bodyPost_end (v := .tuple #[]) (by simp [results, Try.results29, go_sem]) rfl ⟨rfl, v, w9, HP.out, row32_put HROW.out D v, (Tr.refl (one rb) w9).set (.inl (one_self rb)) _⟩
end Go.Proofs.Ytabkinlpbefjgaa.L

namespace Go.Proofs.Ytabkinlpbefjgaa.L
open Go.RowKit Go.Proofs.Ytabkinlpbefjgaa.X Go.Proofs.YtabkinlpbefjgaaW.PrintWords Go.Proofs.YtabkinlpbefjgaaW.PrintLast Go.Proofs.YtabkinlpbefjgaaW.PrintMore
attribute [local go_sem] max2_int min2_int max_two min_two max_three min_three max_four min_four   -- for this text's walks alone
set_option linter.unusedVariables false
set_option linter.unusedSimpArgs false
open Go.Proofs.Ytabkinlpbefjgaa.Pure
def CallRel (V : Qv) (W : World) (c va : Int) (tv : Value) (nm : ByteArray) (args : List Int) (G : Gl) (v : Int) (w' : World) : Prop :=
  ∃ tv' G2, Tr (V.own tv) W w' ∧ TvOk W tv tv' ∧ W32 v ∧ G.st ≤ G2.st ∧
    ((c ≠ 32 ∧ QInv V w' G2 c 0 va tv' ∧ ∀ (rest : List Fr) (d : Int), (rest.length : Int) = c → Reach V (.go (newFr V.F nm args d :: rest) G) (leaveS v d G2 rest)) ∨
     (∃ en c2, en ≠ 0 ∧ QInv V w' G2 c2 en va tv' ∧ ((c = 32 ∧ en = 4 ∧ G2 = G) ∨ (c ≠ 32 ∧ ∀ (rest : List Fr) (d : Int), (rest.length : Int) = c → Reach V (.go (newFr V.F nm args d :: rest) G) (.fin en 0 G2)))))
def CallOk (V : Qv) (N : Nat) : Prop := ∀ (W : World) (G : Gl) (c va : Int) (tv : Value) (nm : ByteArray) (args : List Int) (AR : Option Addr) (cR : Nat), QInv V W G c 0 va tv → 0 ≤ c → c ≤ 32 → V.fuel.toNat ≤ G.st + N → fnAt V.F nm < V.F.length → (fnOf V.F (fnAt V.F nm)).f1 = (args.length : Int) → (∀ v ∈ args, W32 v) → (Kd.int .i32).C W AR args.length args → args.length ≤ cR →
  Calls Try.prog 18 #[.pointer (some ⟨V.mb, 0, none⟩), .string nm, .slice AR args.length cR] W fun e w' => ∃ v, e = .returned (.int .i32 v) ∧ CallRel V W c va tv nm args G v w'
def InsAll (V : Qv) (W : World) (rb : Nat) (regs : List Int) (x : S44) (G : Gl) (c va : Int) (tv : Value) (w' : World) : Prop :=
  ∃ tv' G2, Tr (fun q => q = rb ∨ V.own tv q) W w' ∧ TvOk W tv tv' ∧ G.st ≤ G2.st ∧
    ((∃ r, QInv V w' G2 c 0 va tv' ∧ w'.heap[rb]? = some (Obj.cells (row32 r) 21 (0, 0)) ∧ r.length = regs.length ∧ (∀ v ∈ r, W32 v) ∧ ∀ (fr : Fr) (rest : List Fr) (Gp : Gl), Gp.tick = G → ¬ V.fuel ≤ (Gp.st : Int) → (blkOf V.F fr).f0[fr.ins]? = some x → fr.regs = regs → (rest.length : Int) + 1 = c → Reach V (.go (fr :: rest) Gp) (.go (fr.on r :: rest) G2)) ∨
     (∃ en c2, en ≠ 0 ∧ QInv V w' G2 c2 en va tv' ∧ ∀ (fr : Fr) (rest : List Fr) (Gp : Gl), Gp.tick = G → ¬ V.fuel ≤ (Gp.st : Int) → (blkOf V.F fr).f0[fr.ins]? = some x → fr.regs = regs → (rest.length : Int) + 1 = c → Reach V (.go (fr :: rest) Gp) (.fin en 0 G2)))
theorem step_at {V : Qv} {fr : Fr} {rest : List Fr} {Gp : Gl} {x : S44} (hf : ¬ V.fuel ≤ (Gp.st : Int)) (hx : (blkOf V.F fr).f0[fr.ins]? = some x) : stepC V.F V.GS V.inp V.fuel fr rest Gp = match insF V.GS V.inp x fr.regs Gp.tick with
    | .go regs G2 => .go (fr.on regs :: rest) G2
    | .stop e => .fin e 0 Gp.tick
    | .call args => if 31 ≤ rest.length then .fin 4 0 Gp.tick else .go (newFr V.F x.f6 args x.f2 :: fr.on fr.regs :: rest) Gp.tick := by
  unfold stepC
  rw [if_neg hf, hx]
  rfl
section
variable {V : Qv} (hV : QvOk V) {W : World} {G : Gl} {c va : Int} {tv : Value} (hQ : QInv V W G c 0 va tv) {rb : Nat} {regs : List Int} (hr : W.heap[rb]? = some (.cells (row32 regs) 21 (0, 0))) (ho : Off V W tv rb) (hw : ∀ v ∈ regs, W32 v)
include hV hQ hr ho hw
theorem ins_plain (x : S44) (av : Value) (hav : av.oneCell' = true) (hX : OkIns V.F V.GS (regs.length : Int) x) (h7 : x.f0 ≠ 7) (htl : G.tr.length < G.st) : RC V rb regs x av W fun e w' => e = .returned (.tuple #[]) ∧ InsAll V W rb regs x G c va tv w' := by
  refine (rins_calls hV hQ hr ho hw x av hav hX h7 htl).mono ?_
  rintro e w' ⟨he, tv', ht, hT, hm⟩
  refine ⟨he, tv', ?_⟩
  cases hi : insF V.GS V.inp x regs G with
  | go r G2 =>
    rw [hi] at hm
    have hk := insF_ok hX hw hQ.gl hV.w32 hi
    have hst := (insF_st hi).1
    refine ⟨G2, ht, hT, Nat.le_of_eq hst.symm, .inl ⟨r, hm.1, hm.2, hk.1, hk.2.1, fun fr rest Gp hG hf hx hfr hc => ?_⟩⟩
    have h1 := Reach.one V fr rest Gp
    rw [step_at hf hx, hfr, hG, hi] at h1
    exact h1
  | stop en =>
    rw [hi] at hm
    have hne : en ≠ 0 := by
      unfold insF at hi
      repeat' split at hi
      all_goals first
        | (injection hi with h1; subst h1; decide)
        | cases hi
    refine ⟨G, ht, hT, Nat.le_refl _, .inr ⟨en, c, hne, hm, fun fr rest Gp hG hf hx hfr hc => ?_⟩⟩
    have h1 := Reach.one V fr rest Gp
    rw [step_at hf hx, hfr, hG, hi] at h1
    exact h1
  | call args => rw [hi] at hm; exact hm.elim
theorem ins_call (op D A B num : Int) (nm : ByteArray) (ixs : List Int) (A7 : Option Addr) (c7 : Nat) (hc7 : ixs.length ≤ c7) (h7 : (Kd.int .i64).C W A7 ixs.length ixs) (hX : OkIns V.F V.GS (regs.length : Int) ⟨7, op, D, A, B, num, nm, ixs⟩) (hc0 : 0 ≤ c) (hc32 : c ≤ 32) {N : Nat} (hN : V.fuel.toNat ≤ G.st + N) (hC : CallOk V N) :
    RC V rb regs ⟨7, op, D, A, B, num, nm, ixs⟩ (.slice A7 ixs.length c7) W fun e w' => e = .returned (.tuple #[]) ∧ InsAll V W rb regs ⟨7, op, D, A, B, num, nm, ixs⟩ G c va tv w' := by
  have hargs := hX.args (by simp)
  have hd7 := hX.dst7 (by simp)
  simp only at hargs hd7
  have hlm : (ixs.map (get32 regs)).length = ixs.length := List.length_map _
  have hwa : ∀ v ∈ ixs.map (get32 regs), W32 v := fun v hv => by
    obtain ⟨i, _, rfl⟩ := List.mem_map.1 hv
    exact W32.get hw i
  have hE : ∀ w1 A2 c2, Tr nil_ W w1 → (Kd.int .i32).C w1 A2 ixs.length (ixs.map (get32 regs)) → ixs.length ≤ c2 → Calls Try.prog 18 #[.pointer (some ⟨V.mb, 0, none⟩), .string nm, .slice A2 ixs.length c2] w1 fun e w' => ∃ v, e = .returned (.int .i32 v) ∧ CallRel V W c va tv nm (ixs.map (get32 regs)) G v w' ∧ w'.heap[rb]? = some (.cells (row32 regs) 21 (0, 0)) ∧ ∀ o, w1.heap[W.heap.size]? = some o → w'.heap[W.heap.size]? = some o := by
    intro w1 A2 c2 ht hC2 hl2
    have hQ1 := hQ.keep ht (fun _ h => h.elim)
    have h1 := hC w1 G c va tv nm (ixs.map (get32 regs)) A2 c2 hQ1 hc0 hc32 hN hargs.2.2.1 (by rw [hlm]; exact hargs.2.2.2) hwa (by rw [hlm]; exact hC2) (by rw [hlm]; exact hl2)
    rw [hlm] at h1
    refine h1.mono ?_
    rintro e w' ⟨v, he, tv', G2, hT, hv, hrest⟩
    have ho1 := ho.step ht.size (.inl rfl)
    refine ⟨v, he, ⟨tv', G2, (ht.mono (fun _ h => h.elim)).trans hT, ?_, hrest⟩, (ho1.kept hT).trans (ht.blk hr (fun h => h)), fun o ho2 => ?_⟩
    · rcases hv with h | ⟨b, h, hle⟩
      · exact .inl h
      · exact .inr ⟨b, h, Nat.le_trans ht.size hle⟩
    · exact ((hQ.off hV (Nat.le_refl _) (blk_lt ho2)).kept hT).trans ho2
  have hfin : ∀ v w' w2 (r : List Int), CallRel V W c va tv nm (ixs.map (get32 regs)) G v w' → Tr (one rb) w' w2 → w2.heap[rb]? = some (.cells (row32 r) 21 (0, 0)) → r = (if 0 ≤ D then put32 regs D v else regs) → InsAll V W rb regs ⟨7, op, D, A, B, num, nm, ixs⟩ G c va tv w2 := by
    rintro v w' w2 r ⟨tv', G2, hT, hv, hv32, hst, hres⟩ ht hrow hreq
    have ho1 := ho.step hT.size hv
    have hS : ∀ q, one rb q → V.base ≤ q ∧ q ≠ V.mb ∧ q ≠ V.db ∧ q ∉ V.bs ∧ some q ≠ tv'.ownBlock := fun q hq => by rw [show q = rb from hq]; exact ⟨ho1.ge, ho1.mb, ho1.db, ho1.bs, ho1.tv⟩
    have hTT : Tr (fun q => q = rb ∨ V.own tv q) W w2 := (hT.mono (fun q hq => .inr hq)).trans (ht.mono (fun q hq => .inl hq))
    refine ⟨tv', G2, hTT, hv, hst, ?_⟩
    rcases hres with ⟨hn32, hq, hreach⟩ | ⟨en, c2, hne, hq, hres⟩
    · refine .inl ⟨r, hq.keep ht hS, hrow, ?_, ?_, fun fr rest Gp hG hf hx hfr hc => ?_⟩
      · rw [hreq]; split
        · exact put32_length _ _ _
        · rfl
      · rw [hreq]; split
        · exact W32.put hw _ _ hv32
        · exact hw
      · have h1 := Reach.one V fr rest Gp
        rw [step_at hf hx, hG] at h1
        have e1 : insF V.GS V.inp ⟨7, op, D, A, B, num, nm, ixs⟩ fr.regs G = .call (ixs.map (get32 fr.regs)) := rfl
        rw [e1] at h1
        by_cases h31 : 31 ≤ rest.length
        · exact absurd (show c = 32 by omega) hn32
        · have h3 : Reach V (.go (fr :: rest) Gp) (.go (newFr V.F nm (ixs.map (get32 regs)) D :: fr.on regs :: rest) G) := by
            rw [hfr] at h1
            have h4 : (if 31 ≤ rest.length then SR.fin 4 0 G else .go (newFr V.F nm (ixs.map (get32 regs)) D :: fr.on regs :: rest) G) = .go (newFr V.F nm (ixs.map (get32 regs)) D :: fr.on regs :: rest) G := if_neg h31
            exact h4 ▸ h1
          have h5 := hreach (fr.on regs :: rest) D (by simp only [List.length_cons]; omega)
          have h6 : leaveS v D G2 (fr.on regs :: rest) = .go (fr.on r :: rest) G2 := by
            show SR.go ((fr.on regs).take D v :: rest) G2 = _
            rw [hreq]
            unfold Fr.take
            by_cases h0 : 0 ≤ D
            · rw [if_pos h0, if_pos h0]; rfl
            · rw [if_neg h0, if_neg h0]
          rw [h6] at h5
          exact h3.trans h5
    · refine .inr ⟨en, c2, hne, hq.keep ht hS, fun fr rest Gp hG hf hx hfr hc => ?_⟩
      have h1 := Reach.one V fr rest Gp
      rw [step_at hf hx, hG] at h1
      have e1 : insF V.GS V.inp ⟨7, op, D, A, B, num, nm, ixs⟩ fr.regs G = .call (ixs.map (get32 fr.regs)) := rfl
      rw [e1, hfr] at h1
      rcases hres with ⟨hc2, he4, hG2⟩ | ⟨hc2, hreach⟩
      · have h4 : (if 31 ≤ rest.length then SR.fin 4 0 G else .go (newFr V.F nm (ixs.map (get32 regs)) D :: fr.on regs :: rest) G) = .fin en 0 G2 := by rw [if_pos (by omega), he4, hG2]
        exact h4 ▸ h1
      · have h4 : (if 31 ≤ rest.length then SR.fin 4 0 G else .go (newFr V.F nm (ixs.map (get32 regs)) D :: fr.on regs :: rest) G) = .go (newFr V.F nm (ixs.map (get32 regs)) D :: fr.on regs :: rest) G := if_neg (by omega)
        exact (h4 ▸ h1 : Reach V _ _).trans (hreach (fr.on regs :: rest) D (by simp only [List.length_cons]; omega))
  unfold RC
  by_cases hD : D < 0
  · refine (rins_call_neg rb regs _ rfl W V.mb hr op D A B num nm A7 ixs.length c7 hc7 ixs h7 hargs.2.1 hargs.1 hD _ hE).mono ?_
    rintro e w2 ⟨he, v, w', hp, rfl⟩
    obtain ⟨tv', G2, hT, hv, hrest⟩ := hp
    exact ⟨he, hfin v w2 w2 regs ⟨tv', G2, hT, hv, hrest⟩ (Tr.refl _ _) ((ho.kept hT).trans hr) (by rw [if_neg (by omega)])⟩
  · have hD2 : 0 ≤ D ∧ D < (regs.length : Int) := by omega
    refine (rins_call_pos rb regs _ rfl W V.mb hr op D A B num nm A7 ixs.length c7 hc7 ixs h7 hargs.2.1 hargs.1 hD2.1 hD2.2 _ hE).mono ?_
    rintro e w2 ⟨he, v, w', hp, ht⟩
    exact ⟨he, hfin v w' w2 _ hp ht.2 ht.1 (by rw [if_pos hD2.1])⟩
end
end Go.Proofs.Ytabkinlpbefjgaa.L

namespace Go.Proofs.Ytabkinlpbefjgaa.L
open Go.RowKit Go.Proofs.Ytabkinlpbefjgaa.X Go.Proofs.YtabkinlpbefjgaaW.PrintWords Go.Proofs.YtabkinlpbefjgaaW.PrintLast Go.Proofs.YtabkinlpbefjgaaW.PrintMore
attribute [local go_sem] max2_int min2_int max_two min_two max_three min_three max_four min_four   -- for this text's walks alone
set_option linter.unusedVariables false
set_option linter.unusedSimpArgs false
def InvE (V : Rv) (W : World) (ks : List Kf) (G : Gl) (en va : Int) : Prop := ∃ cv tv, Hp V W (V.LL ks G en va cv tv) cv tv (cbsOf ks) G.tr
theorem calls_form {W : World} {base : Nat} {ok : Nat → Prop} {cv : Value} {cbs : List Nat} (h : kptr.R 68 W base ok cv cbs) (hn : 0 < cbs.length) :
    ∃ ab cap, cv = .slice (some ⟨ab, 0, none⟩) cbs.length cap ∧ cbs.length ≤ cap ∧ ∀ i (hi : i < cbs.length), W.cell? ⟨ab, i, none⟩ = some (.pointer (some ⟨cbs[i], 0, none⟩)) := by
  obtain ⟨_, inner, ho, hr⟩ := h
  rcases ho.2 with ⟨_, h0⟩ | ⟨g, cap, cur, rfl, hg, hh, h1, h2, h3, h4⟩
  · omega
  · refine ⟨g, cap, rfl, h1, fun i hi => ?_⟩
    have h5 := hr.2 i cbs[i] (List.getElem?_eq_getElem hi)
    have h6 : (inner.drop (i * 1)).take 1 = [.pointer (some ⟨cbs[i], 0, none⟩)] := h5
    have h7 : inner[i]? = some (.pointer (some ⟨cbs[i], 0, none⟩)) := by
      have := congrArg (fun l => l[0]?) h6
      simpa [List.getElem?_take] using this
    have hs : cbs.length * kptr.sz = cbs.length := Nat.mul_one _
    rw [hs] at h4
    rw [blk_cell hh, ← h7, ← h4, List.getElem?_take]
    simp [hi]
theorem Hp.two_ {V : Rv} {W w1 : World} {cv tv : Value} {cbs : List Nat} {tr : List Int} {A B : List Bk} {g r : Nat} {cs cs' rc rc' : Array Value} {t tq : TypeId} (h : Hp V W ((g, cs, t) :: (A ++ (r, rc, tq) :: B)) cv tv cbs tr) (hg : w1.heap[g]? = some (.cells cs' t (0, 0)))
    (hr : w1.heap[r]? = some (.cells rc' tq (0, 0))) (ht : Tr (fun q => q = g ∨ q = r) W w1) : Hp V w1 ((g, cs', t) :: (A ++ (r, rc', tq) :: B)) cv tv cbs tr := by
  refine h.move ht (fun k hk => ?_) ?_ (by simp [keysOf])
  · rcases hk with rfl | rfl <;> simp [keysOf]
  · have hn := h.lay.apart
    have hn' : (((g, cs', t) :: (A ++ (r, rc', tq) :: B)).map (·.1)).Nodup := by simpa using hn
    refine ⟨fun b hb => ?_, hn'⟩
    simp only [List.map_cons, List.map_append, List.nodup_cons, List.mem_append, List.mem_cons, not_or, List.nodup_append] at hn
    have old : ∀ b, b ∈ A ∨ b ∈ B → V.base ≤ b.1 ∧ w1.heap[b.1]? = some (.cells b.2.1 b.2.2 (0, 0)) := fun b hb => by
      have hm : b ∈ (g, cs, t) :: (A ++ (r, rc, tq) :: B) := by
        rcases hb with hb | hb
        · exact List.mem_cons_of_mem _ (List.mem_append_left _ hb)
        · exact List.mem_cons_of_mem _ (List.mem_append_right _ (List.mem_cons_of_mem _ hb))
      refine ⟨(h.lay.at_ b hm).1, (ht.keep b.1 (h.lay.lt hm) ?_).trans (h.lay.at_ b hm).2⟩
      rcases hb with hb | hb
      · have hbm : b.1 ∈ A.map (·.1) := List.mem_map_of_mem hb
        rintro (e | e)
        · exact hn.1.1 (e ▸ hbm)
        · exact hn.2.2.2 _ hbm r (.inl rfl) e
      · have hbm : b.1 ∈ B.map (·.1) := List.mem_map_of_mem hb
        rintro (e | e)
        · exact hn.1.2.2 (e ▸ hbm)
        · exact hn.2.2.1.1 (e ▸ hbm)
    rcases List.mem_cons.1 hb with rfl | hb
    · exact ⟨(h.lay.at_ _ List.mem_cons_self).1, hg⟩
    rcases List.mem_append.1 hb with hb | hb
    · exact old b (.inl hb)
    rcases List.mem_cons.1 hb with rfl | hb
    · exact ⟨(h.lay.at_ (r, rc, tq) (List.mem_cons_of_mem _ (List.mem_append_right _ List.mem_cons_self))).1, hr⟩
    · exact old b (.inr hb)
theorem cbs_top (cb rb : Nat) (fr : Fr) (rest : List Kf) : cbsOf ((cb, rb, fr) :: rest) = cbsOf rest ++ [cb] := by simp [cbsOf]
theorem cbs_len (ks : List Kf) : (cbsOf ks).length = ks.length := by simp [cbsOf]
def bC (b : S41) (sv : Value) : Array Value := #[sv, .int .i64 b.f1, .int .i64 b.f2, .int .i64 b.f3, .int .i64 b.f4]
def EndPost (V : Rv) (cb rb : Nat) (fr : Fr) (rest : List Kf) (b : S41) (G : Gl) (e : Ending) (w' : World) : Prop :=
  if b.f1 = 1 then e = .returned (.bool false) ∧ Inv V w' ((cb, rb, fr.jump b.f3) :: rest) G
  else if b.f1 = 2 then e = .returned (.bool false) ∧ Inv V w' ((cb, rb, fr.jump (if get32 fr.regs b.f2 = 0 then b.f4 else b.f3)) :: rest) G
  else match rest with
    | [] => e = .returned (.bool true) ∧ InvE V w' [] G 0 (get32 fr.regs b.f2)
    | (c2, r2, p) :: q => e = .returned (.bool false) ∧ Inv V w' ((c2, r2, p.take fr.d (get32 fr.regs b.f2)) :: q) G
theorem Inv.call {V : Rv} {W w1 : World} {cb rb : Nat} {fr fr' : Fr} {rest : List Kf} {G : Gl} {cv tv : Value} (hr : fr'.regs = fr.regs) (h : Hp V W (V.LL ((cb, rb, fr) :: rest) G 0 0 cv tv) cv tv (cbsOf ((cb, rb, fr) :: rest)) G.tr) (ht : Turned W w1 cb (V.frC rb fr') 70) :
    Hp V w1 (V.LL ((cb, rb, fr') :: rest) G 0 0 cv tv) cv tv (cbsOf ((cb, rb, fr') :: rest)) G.tr := by
  rw [LL_cons] at h ⊢
  have h2 := Hp.turn (A := [(V.mb, mC V.E ⟨cv, 0, 0, tv, G.st, G.rd⟩, 54)]) h ht
  rw [hr]
  exact h2
theorem end_inv {V : Rv} {W : World} {cb rb : Nat} {fr : Fr} {rest : List Kf} {G : Gl} (hI : Inv V W ((cb, rb, fr) :: rest) G) (b : S41) (hk : b.f1 = 1 ∨ b.f1 = 2 ∨ b.f1 = 3) (h1 : b.f1 = 1 ∨ b.f1 = 2 → 0 ≤ b.f3) (h2 : b.f1 = 2 → 0 ≤ b.f4)
    (ha : b.f1 = 2 ∨ b.f1 = 3 → 0 ≤ b.f2 ∧ b.f2 < (fr.regs.length : Int)) (hd : ∀ c2 r2 p q, rest = (c2, r2, p) :: q → fr.d < (p.regs.length : Int)) (hlen : rest.length ≤ 31) (sv : Value) (hsv : sv.oneCell' = true) :
    Calls Try.prog 27 #[.pointer (some ⟨V.mb, 0, none⟩), .pointer (some ⟨cb, 0, none⟩), .agg (bC b sv)] W (EndPost V cb rb fr rest b G) := by
  obtain ⟨cv, tv, h⟩ := hI
  have T := h.top
  obtain ⟨ins, k, A, t0, el⟩ := b
  simp only at hk h1 h2 ha
  unfold EndPost
  have hcs : ∀ t1 : Int, 0 ≤ t1 → fC (V.fa fr.fn) rb fr.regs.length t1 0 fr.d = V.frC rb (fr.jump t1) := fun t1 ht => by
    unfold Rv.frC Fr.jump
    simp only [Int.toNat_of_nonneg ht]
    rfl
  by_cases k1 : k = 1
  · subst k1
    have ht0 := h1 (.inl rfl)
    refine (end_jump _ rb _ _ _ _ W _ cb T.c sv hsv A t0 el).mono ?_
    rintro e w' ⟨he, ht⟩
    rw [hcs t0 ht0] at ht
    exact ⟨he, cv, tv, Inv.call (fr := fr) (fr' := fr.jump t0) rfl h ht⟩
  by_cases k2 : k = 2
  · subst k2
    have ht0 := h1 (.inr rfl)
    have hel := h2 rfl
    have haa := ha (.inl rfl)
    refine (end_branch _ rb fr.regs _ rfl _ _ _ W _ cb T.c T.r T.rc sv hsv A t0 el haa.1 haa.2).mono ?_
    rintro e w' ⟨he, ht⟩
    rw [hcs _ (by split <;> assumption)] at ht
    exact ⟨he, cv, tv, Inv.call (fr := fr) (fr' := fr.jump (if get32 fr.regs A = 0 then el else t0)) rfl h ht⟩
  · have k3 : k = 3 := by omega
    subst k3
    have haa := ha (.inr rfl)
    simp only [if_neg (show ¬ (3 : Int) = 1 by decide), if_neg (show ¬ (3 : Int) = 2 by decide)]
    have hfr : ∀ w1, Turned W w1 cb (fC (V.fa fr.fn) rb fr.regs.length fr.blk 0 fr.d) 70 → Hp V w1 (V.LL ((cb, rb, { fr with ins := 0 }) :: rest) G 0 0 cv tv) cv tv (cbsOf ((cb, rb, { fr with ins := 0 }) :: rest)) G.tr := fun w1 ht =>
      Inv.call (fr := fr) (fr' := { fr with ins := 0 }) rfl h (by unfold Rv.frC; exact ht)
    cases rest with
    | nil =>
      refine end_ret _ rb fr.regs _ rfl _ _ _ W _ cb T.c T.r T.rc sv hsv A t0 el haa.1 haa.2 true _ (fun w1 ht => ?_)
      have h1 := hfr w1 ht
      obtain ⟨ab, cap, hcv, hcap, _⟩ := calls_form h1.calls (by simp [cbsOf])
      refine (leave_main V.E ⟨cv, 0, 0, tv, G.st, G.rd⟩ w1 V.mb ab cap hcv hcap h1.top.m _ _).mono ?_
      rintro e w' ⟨he, ht2⟩
      subst hcv
      refine ⟨he, .slice (some ⟨ab, 0, none⟩) 0 cap, tv, ?_⟩
      rw [LL_cons] at h1
      have h9 := Hp.left h1 ht2.1 ht2.2 (k := 0) (Nat.zero_le _)
      exact h9
    | cons p2 q =>
      obtain ⟨c2, r2, p⟩ := p2
      have hdd := hd c2 r2 p q rfl
      refine end_ret _ rb fr.regs _ rfl _ _ _ W _ cb T.c T.r T.rc sv hsv A t0 el haa.1 haa.2 false _ (fun w1 ht => ?_)
      have h1 := hfr w1 ht
      obtain ⟨ab, cap, hcv, hcap, hcells⟩ := calls_form h1.calls (by simp [cbsOf])
      have hl1 : (cbsOf ((cb, rb, { fr with ins := 0 }) :: (c2, r2, p) :: q)).length = (q.length + 1) + 1 := by rw [cbs_len]; simp
      rw [hl1] at hcv hcap
      have htk : (cbsOf ((cb, rb, { fr with ins := 0 }) :: (c2, r2, p) :: q)).take (q.length + 1) = cbsOf ((c2, r2, p) :: q) := by
        rw [cbs_top]
        exact List.take_left' (by rw [cbs_len]; simp)
      have T1 := h1.top
      rw [LL_cons] at h1
      have hp1 : w1.heap[c2]? = some (.cells (V.frC r2 p) 70 (0, 0)) := h1.at (b := (c2, V.frC r2 p, 70)) (by simp [Rv.frBs])
      have hp2 : w1.heap[r2]? = some (.cells (row32 p.regs) 21 (0, 0)) := h1.at (b := (r2, row32 p.regs, 21)) (by simp [Rv.frBs])
      have hn1 : c2 ≠ V.mb := h1.ne (i := 3) (j := 0) rfl rfl (by decide)
      have hn2 : r2 ≠ V.mb := h1.ne (i := 4) (j := 0) rfl rfl (by decide)
      have hlq : q.length ≤ 30 := by simp only [List.length_cons] at hlen; omega
      by_cases hneg : fr.d < 0
      · refine (leave_none V.E ⟨cv, 0, 0, tv, G.st, G.rd⟩ w1 V.mb ab (q.length + 1) cap hcv (by omega) (by omega) hcap T1.m cb _ _ _ _ _ _ T1.c T1.cm hneg _).mono ?_
        rintro e w' ⟨he, ht2⟩
        subst hcv
        refine ⟨he, .slice (some ⟨ab, 0, none⟩) (q.length + 1) cap, tv, ?_⟩
        have h9 := Hp.left h1 ht2.1 ht2.2 (k := q.length + 1) (by omega)
        rw [htk] at h9
        rw [show p.take fr.d (get32 fr.regs A) = p from by unfold Fr.take; rw [if_neg (by omega)]]
        exact h9
      · have hat := hcells q.length (by rw [hl1]; omega)
        have hq2 : (cbsOf ((cb, rb, { fr with ins := 0 }) :: (c2, r2, p) :: q))[q.length]'(by rw [hl1]; omega) = c2 := by
          have e1 : cbsOf ((cb, rb, { fr with ins := 0 }) :: (c2, r2, p) :: q) = cbsOf q ++ [c2] ++ [cb] := by simp [cbsOf]
          have hlcq : (cbsOf q).length = q.length := cbs_len q
          have : (cbsOf ((cb, rb, { fr with ins := 0 }) :: (c2, r2, p) :: q))[q.length]? = some c2 := by
            rw [e1, List.append_assoc, List.getElem?_append_right (by omega), hlcq, Nat.sub_self]
            rfl
          rw [List.getElem?_eq_getElem (by rw [hl1]; omega)] at this
          exact Option.some.inj this
        rw [hq2] at hat
        have hab : ab ≠ V.mb := by
          intro e
          have := h1.cvk ab (by rw [hcv]; rfl)
          exact this.2.2 (by rw [e]; exact List.mem_cons_self)
        refine (leave_give V.E ⟨cv, 0, 0, tv, G.st, G.rd⟩ w1 V.mb ab (q.length + 1) cap hcv (by omega) (by omega) hcap T1.m cb _ _ _ _ _ _ T1.c T1.cm (show 0 ≤ fr.d by omega) _ c2 hat hab _ r2 _ _ _ _ hp1 hn1 p.regs hp2 rfl hn2 hdd).mono ?_
        rintro e w' ⟨he, g1, g2, g3⟩
        subst hcv
        refine ⟨he, .slice (some ⟨ab, 0, none⟩) (q.length + 1) cap, tv, ?_⟩
        rw [show p.take fr.d (get32 fr.regs A) = { p with regs := put32 p.regs fr.d (get32 fr.regs A) } from by unfold Fr.take; rw [if_pos (by omega)]]
        have h8 := Hp.two_ (A := [(cb, V.frC rb { fr with ins := 0 }, 70), (rb, row32 fr.regs, 21), (c2, V.frC r2 p, 70)]) h1 g1 g2 g3
        have h9 := Hp.left h8 g1 (Tr.refl _ _) (k := q.length + 1) (by omega)
        rw [htk] at h9
        have hfc : V.frC r2 { p with regs := put32 p.regs fr.d (get32 fr.regs A) } = V.frC r2 p := by unfold Rv.frC; rw [put32_length]
        rw [LL_cons, hfc]
        exact h9
end Go.Proofs.Ytabkinlpbefjgaa.L

namespace Go.Proofs.Ytabkinlpbefjgaa.L
open Go.RowKit Go.Proofs.Ytabkinlpbefjgaa.X Go.Proofs.YtabkinlpbefjgaaW.PrintWords Go.Proofs.YtabkinlpbefjgaaW.PrintLast Go.Proofs.YtabkinlpbefjgaaW.PrintMore
attribute [local go_sem] max2_int min2_int max_two min_two max_three min_three max_four min_four   -- for this text's walks alone
set_option linter.unusedVariables false
set_option linter.unusedSimpArgs false
set_option maxHeartbeats 2000000 in
theorem catch_panicking (E : Env) (m : MV) (W : World) (g b1 : Nat) (hb : W.heap[g]? = some (.cells (mC E m) 54 (0, 0))) (h1 : W.heap[b1]? = some (.cells #[.pointer (some ⟨g, 0, none⟩)] 49 (0, 0))) (c : Int) (older : List PanicEntry) :
    CallsD Try.prog 23 #[.pointer (some ⟨b1, 0, none⟩)] (.panicking ({ v := .iface 66 (.int .i64 c), recovered := false } :: older)) W fun e u' w' =>
      e = .returned (.tuple #[]) ∧ u' = .panicking ({ v := .iface 66 (.int .i64 c), recovered := true } :: older) ∧ Turned W w' g (mC E { m with en := c }) 54 := by
  have cm0 : W.cell? ⟨g, 0, none⟩ = some (.map (some E.fm)) := (blk_cell hb 0).trans rfl; have fm0 := blk_frozen hb 0; have cm1 : W.cell? ⟨g, 1, none⟩ = some (.map (some E.wm)) := (blk_cell hb 1).trans rfl; have fm1 := blk_frozen hb 1; have cm2 : W.cell? ⟨g, 2, none⟩ = some (E.iv) := (blk_cell hb 2).trans rfl; have fm2 := blk_frozen hb 2; have cm3 : W.cell? ⟨g, 3, none⟩ = some (.int .i64 E.fuel) := (blk_cell hb 3).trans rfl; have fm3 := blk_frozen hb 3; have cm4 : W.cell? ⟨g, 4, none⟩ = some (m.cv) := (blk_cell hb 4).trans rfl; have fm4 := blk_frozen hb 4; have cm5 : W.cell? ⟨g, 5, none⟩ = some (.int .i64 m.en) := (blk_cell hb 5).trans rfl; have fm5 := blk_frozen hb 5; have cm6 : W.cell? ⟨g, 6, none⟩ = some (.int .i32 m.va) := (blk_cell hb 6).trans rfl; have fm6 := blk_frozen hb 6; have cm7 : W.cell? ⟨g, 7, none⟩ = some (m.tv) := (blk_cell hb 7).trans rfl; have fm7 := blk_frozen hb 7; have cm8 : W.cell? ⟨g, 8, none⟩ = some (.int .i64 (m.st : Int)) := (blk_cell hb 8).trans rfl; have fm8 := blk_frozen hb 8; have cm9 : W.cell? ⟨g, 9, none⟩ = some (.int .i64 (m.rd : Int)) := (blk_cell hb 9).trans rfl; have fm9 := blk_frozen hb 9
  have hta : ∀ W1 : World, (Instr.typeAssert (.iface 66 (.int .i64 c)) 20 66 true).run Try.prog W1 = .ok (.tuple #[.int .i64 c, .bool true]) W1 := fun W1 => by kernel_rfl
  have c1 : W.cell? ⟨b1, 0, none⟩ = some (.pointer (some ⟨g, 0, none⟩)) := (blk_cell h1 0).trans rfl
  refine callsD_of_wpS Try.func23 rfl fun c₀ cs hu => ?_
  apply wpS_seq
  apply wpS_region
  simp [wpOpsS, go_sem, recoverD, hu, Try.ntmps23, Exit.thenS]
  rw [show (#[Value.pointer (some ⟨b1, 0, none⟩)] ++ (Array.replicate 14 undef).setIfInBounds 3 (Value.iface 66 (Value.int IntKind.i64 c)) : Array Value) = #[Value.pointer (some ⟨b1, 0, none⟩), undef, undef, undef, .iface 66 (.int .i64 c), undef, undef, undef, undef, undef, undef, undef, undef, undef, undef] from by rfl]
  refine wpS_of_wp ?_
  go_wp2
  clear cm0 fm0 cm1 fm1 cm2 fm2 cm3 fm3 cm4 fm4 cm5 fm5 cm6 fm6 cm7 fm7 cm8 fm8 cm9 fm9
  exact ⟨rfl, _, rfl, .tuple #[], by simp [results, Try.results23, go_sem], rfl, rfl, blk_put hb 5 _ (by simp [mC]), (Tr.refl _ _).set (S := one g) (.inl (one_self g)) _⟩
set_option maxHeartbeats 2000000 in
theorem catch_idle (b1 : Nat) (W : World) :
    CallsD Try.prog 23 #[.pointer (some ⟨b1, 0, none⟩)] .returning W fun e u' w' => e = .returned (.tuple #[]) ∧ u' = .returning ∧ w' = W := by
  refine callsD_of_wpS Try.func23 rfl fun c₀ cs hu => ?_
  apply wpS_seq
  apply wpS_region
  simp [wpOpsS, go_sem, recoverD, hu, Try.ntmps23, Exit.thenS]
  rw [show (#[Value.pointer (some ⟨b1, 0, none⟩)] ++ (Array.replicate 14 undef).setIfInBounds 3 Value.nilIface : Array Value) = #[Value.pointer (some ⟨b1, 0, none⟩), undef, undef, undef, .nilIface, undef, undef, undef, undef, undef, undef, undef, undef, undef, undef] from by rfl]
  refine wpS_of_wp ?_
  go_wp2
  cases c₀
  simp_all [bodyPostS, results, Try.results23, go_sem]
end Go.Proofs.Ytabkinlpbefjgaa.L

namespace Go.Proofs.Ytabkinlpbefjgaa.L
open Go.RowKit Go.Proofs.Ytabkinlpbefjgaa.X Go.Proofs.YtabkinlpbefjgaaW.PrintWords Go.Proofs.YtabkinlpbefjgaaW.PrintLast Go.Proofs.YtabkinlpbefjgaaW.PrintMore
attribute [local go_sem] max2_int min2_int max_two min_two max_three min_three max_four min_four   -- for this text's walks alone
set_option linter.unusedVariables false
set_option linter.unusedSimpArgs false
open Go.Proofs.Ytabkinlpbefjgaa.Pure
theorem runS_fin (F : List S47) (GS : List S57) (inp : List Int) (fuel : Int) (e v : Int) (G : Gl) : ∀ k, runS F GS inp fuel k (.fin e v G) = .fin e v G
  | 0 => rfl
  | _ + 1 => rfl
theorem ins_next {V : Rv} (hV : RvOk V) {W : World} {cb rb : Nat} {fr : Fr} {rest : List Kf} {G : Gl} (hI : Inv V W ((cb, rb, fr.on fr.regs) :: rest) G.tick) (hF : OkFr V.F fr) (hi : fr.ins + 1 ≤ (blkOf V.F fr).f0.length) (hG : OkGl V.GS G) (x : S44) (hx : (blkOf V.F fr).f0[fr.ins]? = some x) (hX : OkIns V.F V.GS (fnOf V.F fr.fn).f2 x)
    (hrl : rest.length ≤ 31) (htr : G.tr.length ≤ 1000000) (A7 : Option Addr) (c7 : Nat) (hc7 : x.f7.length ≤ c7) (h7 : (Kd.int .i64).C W A7 x.f7.length x.f7) (hlt : (G.st : Int) < V.E.fuel) {st2 : List Fr} {G2 : Gl} (hs : stepC V.F V.GS V.inp V.E.fuel fr (rest.map (·.2.2)) G = .go st2 G2) :
    Calls Try.prog 26 #[.pointer (some ⟨V.mb, 0, none⟩), .pointer (some ⟨cb, 0, none⟩), .agg (xC x (.slice A7 x.f7.length c7))] W fun e w' => e = .returned (.tuple #[]) ∧ ∃ ks2 : List Kf, ks2.map (·.2.2) = st2 ∧ Inv V w' ks2 G2 := by
  have hon : OkFr V.F (fr.on fr.regs) := ⟨hF.fn, hF.regs, hF.w32, hF.blk, hi⟩
  refine (ins_inv hV hI hon hG.tick x hX hrl htr A7 c7 hc7 h7).mono ?_
  intro e w' h
  unfold stepC at hs
  rw [if_neg (by omega)] at hs
  unfold InsPost at h
  change (match insF V.GS V.inp x fr.regs G.tick with | .go r G2 => _ | .stop c => _ | .call args => _) at h
  simp only [hx] at hs
  cases hins : insF V.GS V.inp x fr.regs G.tick with
  | go r G3 =>
    simp only [hins] at hs h
    injection hs with h1 h2
    subst h1 h2
    exact ⟨h.1, _, rfl, h.2⟩
  | stop c =>
    simp only [hins] at hs
    cases hs
  | call args =>
    simp only [hins, List.length_map] at hs h
    by_cases hd : 31 ≤ rest.length
    · rw [if_pos hd] at hs; cases hs
    · rw [if_neg hd] at hs h
      injection hs with h1 h2
      subst h1 h2
      obtain ⟨he, cb2, rb2, hI2⟩ := h
      exact ⟨he, _, rfl, hI2⟩
theorem ins_fin {V : Rv} (hV : RvOk V) {W : World} {cb rb : Nat} {fr : Fr} {rest : List Kf} {G : Gl} (hI : Inv V W ((cb, rb, fr.on fr.regs) :: rest) G.tick) (hF : OkFr V.F fr) (hi : fr.ins + 1 ≤ (blkOf V.F fr).f0.length) (hG : OkGl V.GS G) (x : S44) (hx : (blkOf V.F fr).f0[fr.ins]? = some x) (hX : OkIns V.F V.GS (fnOf V.F fr.fn).f2 x)
    (hrl : rest.length ≤ 31) (htr : G.tr.length ≤ 1000000) (A7 : Option Addr) (c7 : Nat) (hc7 : x.f7.length ≤ c7) (h7 : (Kd.int .i64).C W A7 x.f7.length x.f7) (hlt : (G.st : Int) < V.E.fuel) {c v : Int} {G2 : Gl} (hs : stepC V.F V.GS V.inp V.E.fuel fr (rest.map (·.2.2)) G = .fin c v G2) :
    Calls Try.prog 26 #[.pointer (some ⟨V.mb, 0, none⟩), .pointer (some ⟨cb, 0, none⟩), .agg (xC x (.slice A7 x.f7.length c7))] W fun e w' => e = .panicked [{ v := .iface 66 (.int .i64 c), recovered := false }] ∧ v = 0 ∧ ∃ ks2 : List Kf, Inv V w' ks2 G2 := by
  have hon : OkFr V.F (fr.on fr.regs) := ⟨hF.fn, hF.regs, hF.w32, hF.blk, hi⟩
  refine (ins_inv hV hI hon hG.tick x hX hrl htr A7 c7 hc7 h7).mono ?_
  intro e w' h
  unfold stepC at hs
  rw [if_neg (by omega)] at hs
  unfold InsPost at h
  change (match insF V.GS V.inp x fr.regs G.tick with | .go r G2 => _ | .stop c => _ | .call args => _) at h
  simp only [hx] at hs
  cases hins : insF V.GS V.inp x fr.regs G.tick with
  | go r G3 =>
    simp only [hins] at hs
    cases hs
  | stop c2 =>
    simp only [hins] at hs h
    injection hs with h1 h2 h3
    subst h1 h2 h3
    exact ⟨h.1, rfl, _, h.2⟩
  | call args =>
    simp only [hins, List.length_map] at hs h
    by_cases hd : 31 ≤ rest.length
    · rw [if_pos hd] at hs h
      injection hs with h1 h2 h3
      subst h1 h2 h3
      exact ⟨h.1, rfl, _, h.2⟩
    · rw [if_neg hd] at hs; cases hs
theorem end_next {V : Rv} (hV : RvOk V) {W : World} {cb rb : Nat} {fr : Fr} {rest : List Kf} {G : Gl} (hI : Inv V W ((cb, rb, fr) :: rest) G.tick) (hF : OkFr V.F fr) (hS : OkSt V.F (fr :: rest.map (·.2.2))) (hx : (blkOf V.F fr).f0[fr.ins]? = none)
    (hrl : rest.length ≤ 31) (sv : Value) (hsv : sv.oneCell' = true) (hlt : (G.st : Int) < V.E.fuel) {st2 : List Fr} {G2 : Gl} (hs : stepC V.F V.GS V.inp V.E.fuel fr (rest.map (·.2.2)) G = .go st2 G2) :
    Calls Try.prog 27 #[.pointer (some ⟨V.mb, 0, none⟩), .pointer (some ⟨cb, 0, none⟩), .agg (bC (blkOf V.F fr) sv)] W fun e w' => e = .returned (.bool false) ∧ ∃ ks2 : List Kf, ks2.map (·.2.2) = st2 ∧ Inv V w' ks2 G2 := by
  have hB := hF.okBlk hV.mid
  refine (end_inv hI (blkOf V.F fr) hB.kind (fun h => (hB.to1 h).1) (fun h => (hB.to2 h).1) (fun h => by have := hB.a h; have := hF.regs; omega) (fun c2 r2 p q e => by subst e; exact hS.2.1) hrl sv hsv).mono ?_
  intro e w' h
  unfold stepC at hs
  rw [if_neg (by omega)] at hs
  simp only [hx] at hs
  unfold EndPost at h
  split at h
  · rename_i h1
    rw [if_pos h1] at hs
    injection hs with e1 e2
    subst e1 e2
    exact ⟨h.1, _, rfl, h.2⟩
  rename_i h1
  rw [if_neg h1] at hs
  split at h
  · rename_i h2
    rw [if_pos h2] at hs
    injection hs with e1 e2
    subst e1 e2
    exact ⟨h.1, _, rfl, h.2⟩
  · rename_i h2
    rw [if_neg h2] at hs
    cases rest with
    | nil => cases hs
    | cons p2 q =>
      obtain ⟨c2, r2, p⟩ := p2
      injection hs with e1 e2
      subst e1 e2
      exact ⟨h.1, _, rfl, h.2⟩
theorem end_fin {V : Rv} (hV : RvOk V) {W : World} {cb rb : Nat} {fr : Fr} {rest : List Kf} {G : Gl} (hI : Inv V W ((cb, rb, fr) :: rest) G.tick) (hF : OkFr V.F fr) (hS : OkSt V.F (fr :: rest.map (·.2.2))) (hx : (blkOf V.F fr).f0[fr.ins]? = none)
    (hrl : rest.length ≤ 31) (sv : Value) (hsv : sv.oneCell' = true) (hlt : (G.st : Int) < V.E.fuel) {c v : Int} {G2 : Gl} (hs : stepC V.F V.GS V.inp V.E.fuel fr (rest.map (·.2.2)) G = .fin c v G2) :
    Calls Try.prog 27 #[.pointer (some ⟨V.mb, 0, none⟩), .pointer (some ⟨cb, 0, none⟩), .agg (bC (blkOf V.F fr) sv)] W fun e w' => e = .returned (.bool true) ∧ c = 1 ∧ InvE V w' [] G2 0 v := by
  have hB := hF.okBlk hV.mid
  refine (end_inv hI (blkOf V.F fr) hB.kind (fun h => (hB.to1 h).1) (fun h => (hB.to2 h).1) (fun h => by have := hB.a h; have := hF.regs; omega) (fun c2 r2 p q e => by subst e; exact hS.2.1) hrl sv hsv).mono ?_
  intro e w' h
  unfold stepC at hs
  rw [if_neg (by omega)] at hs
  simp only [hx] at hs
  unfold EndPost at h
  split at h
  · rename_i h1
    rw [if_pos h1] at hs
    cases hs
  rename_i h1
  rw [if_neg h1] at hs
  split at h
  · rename_i h2
    rw [if_pos h2] at hs
    cases hs
  · rename_i h2
    rw [if_neg h2] at hs
    cases rest with
    | nil =>
      injection hs with e1 e2 e3
      subst e1 e2 e3
      exact ⟨h.1, rfl, h.2⟩
    | cons p2 q => cases hs
end Go.Proofs.Ytabkinlpbefjgaa.L

namespace Go.Proofs.Ytabkinlpbefjgaa.L
open Go.RowKit Go.Proofs.Ytabkinlpbefjgaa.X Go.Proofs.YtabkinlpbefjgaaW.PrintWords Go.Proofs.YtabkinlpbefjgaaW.PrintLast Go.Proofs.YtabkinlpbefjgaaW.PrintMore
attribute [local go_sem] max2_int min2_int max_two min_two max_three min_three max_four min_four   -- for this text's walks alone
set_option linter.unusedVariables false
set_option linter.unusedSimpArgs false
open Go.Proofs.Ytabkinlpbefjgaa.Pure
theorem enter_inv {V : Rv} (hV : RvOk V) {W : World} {G : Gl} (hI : Inv V W [] G) :
    Calls Try.prog 24 #[.pointer (some ⟨V.mb, 0, none⟩), .string mainB, .slice none 0 0, .int .i64 (-1)] W fun e w' => e = .returned (.tuple #[]) ∧ ∃ cb rb, Inv V w' [(cb, rb, newFr V.F mainB [] (-1))] G := by
  obtain ⟨cv, tv, h1⟩ := hI
  have hfa := hV.mid.main
  have hf := hV.mid.fns _ (fnOf_mem hfa)
  have hpp := hf.params
  have hmp := h1.fns _ hfa
  rw [fnAt_name hfa] at hmp
  have hFw := Kd.C_below hV.hF h1.below
  obtain ⟨ad, A3, c3, had, hc0, hc1, hc2, hc3⟩ := at_T47 hFw (fnAt V.F mainB : Int) (by omega) (by omega)
  injection had with had
  subst had
  rw [Int.toNat_natCast] at hc2
  have hrd : (rd_T47 V.F (fnAt V.F mainB : Int)).f2 = (((fnOf V.F (fnAt V.F mainB)).f2.toNat : Nat) : Int) := by
    show (V.F.getD ((fnAt V.F mainB : Int)).toNat z47).f2 = _
    rw [Int.toNat_natCast]
    show (fnOf V.F (fnAt V.F mainB)).f2 = _
    omega
  rw [hrd] at hc2
  have hfr : ∀ k, W.heap.size ≤ k → (V.ok (keysOf (V.LL [] G 0 0 cv tv)) k ∧ tv.ownBlock ≠ some k) := by
    intro k hk
    refine ⟨⟨by have := h1.fm.2.1; omega, by have := h1.wm.2.1; omega, fun hm => ?_⟩, fun e => by have := (own_ge1 h1.trace k e).2; omega⟩
    obtain ⟨b, hb, e⟩ := List.mem_map.1 hm
    have := h1.lay.lt hb
    omega
  have hm0 : W.heap[V.mb]? = some (.cells (mC V.E ⟨cv, 0, 0, tv, G.st, G.rd⟩) 54 (0, 0)) := h1.at List.mem_cons_self
  refine (enter_ok V.E _ W V.mb V.base hm0 (fun k => V.ok (keysOf (V.LL [] G 0 0 cv tv)) k ∧ tv.ownBlock ≠ some k) _ (h1.calls_in _ (fun k hk => ⟨h1.cvk k hk, h1.apart k hk⟩)) (by simp [cbsOf]) h1.base_le hfr (fun k hk e => hk.1.2.2 (by rw [e]; exact List.mem_cons_self)) mainB none 0 0 [] ⟨rfl, by decide, fun h => absurd h (by decide)⟩ (-1) (V.fa (fnAt V.F mainB)) _ hmp hc2 (by omega) (by have := hf.regs; omega)).mono ?_
  rintro e w' ⟨he, cv2, cb2, rb2, g1, g2, g3, g4, g5, g6, g7, g8⟩
  refine ⟨he, cb2, rb2, cv2, tv, ?_⟩
  have hE := h1.entered (t := 54) (tc := 70) (tq := 21) g1 g2 g3 g4 g5 g6 g7 g8
  have hnl : (newFr V.F mainB [] (-1)).regs.length = (fnOf V.F (fnAt V.F mainB)).f2.toNat := by
    show (([] : List Int) ++ List.replicate _ 0).length = _
    rw [List.length_append, List.length_replicate]
    simp
  have hfc : V.frC rb2 (newFr V.F mainB [] (-1)) = fC (V.fa (fnAt V.F mainB)) rb2 (fnOf V.F (fnAt V.F mainB)).f2.toNat 0 0 (-1) := by
    unfold Rv.frC
    rw [hnl]
    rfl
  rw [show cbsOf [(cb2, rb2, newFr V.F mainB [] (-1))] = cbsOf [] ++ [cb2] from by simp [cbsOf], LL_cons, hfc]
  exact hE
def Rv.with (V : Rv) (xs : List Bk) : Rv := { V with xs := xs }
theorem RvOk.with {V : Rv} (h : RvOk V) (xs : List Bk) : RvOk (V.with xs) := ⟨h.hiv, h.hinp, h.hF, h.mid, h.w32, h.len, h.wb⟩
theorem Inv.box {V : Rv} {W : World} {ks : List Kf} {G : Gl} (hI : Inv V W ks G) (cs : Array Value) (t : TypeId) : Inv (V.with (V.xs ++ [(W.heap.size, cs, t)])) (W.alloc (.cells cs t)) ks G := by
  obtain ⟨cv, tv, h⟩ := hI
  refine ⟨cv, tv, ?_⟩
  have h1 := h.tr_ ((Tr.refl nil_ W).alloc (.cells cs t))
  have e : (V.with (V.xs ++ [(W.heap.size, cs, t)])).LL ks G 0 0 cv tv = V.LL ks G 0 0 cv tv ++ [(W.heap.size, cs, t)] := by
    have e2 : ∀ l : List Kf, (V.with (V.xs ++ [(W.heap.size, cs, t)])).frBs l = V.frBs l := by
      intro l
      induction l with
      | nil => rfl
      | cons p l ih => obtain ⟨a, b, c⟩ := p; show _ :: _ :: _ = _ :: _ :: _; rw [ih]; rfl
    unfold Rv.LL
    rw [e2]
    simp [Rv.with]
  have hk : ∀ k, k ∈ keysOf (V.LL ks G 0 0 cv tv ++ [(W.heap.size, cs, t)]) ↔ k ∈ keysOf (V.LL ks G 0 0 cv tv) ∨ k = W.heap.size := by intro k; simp [keysOf]
  rw [e]
  refine ⟨h1.below, ?_, ⟨?_, h1.fm.2⟩, ⟨?_, h1.wm.2⟩, h1.calls, h1.trace, ?_, ?_, h1.apart, h1.fns, h1.wds⟩
  · constructor
    · intro b hb
      rcases List.mem_append.1 hb with hb | hb
      · exact h1.lay.at_ b hb
      · rw [List.mem_singleton.1 hb]
        exact ⟨h.base_le, blk_new W _⟩
    · rw [List.map_append, List.nodup_append]
      refine ⟨h1.lay.apart, by simp, fun a ha b hb => ?_⟩
      obtain ⟨c, hc, e3⟩ := List.mem_map.1 ha
      have := h.lay.lt hc
      simp at hb
      omega
  · intro hm
    rcases (hk _).1 hm with h2 | h2
    · exact h1.fm.1 h2
    · have := h.fm.2.1; have e9 : (V.with (V.xs ++ [(W.heap.size, cs, t)])).E.fm = V.E.fm := rfl; omega
  · intro hm
    rcases (hk _).1 hm with h2 | h2
    · exact h1.wm.1 h2
    · have := h.wm.2.1; have e9 : (V.with (V.xs ++ [(W.heap.size, cs, t)])).E.wm = V.E.wm := rfl; omega
  · intro k hk2
    have h2 := h1.cvk k hk2
    refine ⟨h2.1, h2.2.1, fun hm => ?_⟩
    rcases (hk _).1 hm with h3 | h3
    · exact h2.2.2 h3
    · have := (own_ge1 h.calls k hk2).2; omega
  · intro k hk2
    have h2 := h1.tvk k hk2
    refine ⟨h2.1, h2.2.1, fun hm => ?_⟩
    rcases (hk _).1 hm with h3 | h3
    · exact h2.2.2 h3
    · have := (own_ge1 h.trace k hk2).2; omega
theorem enter_main {V : Rv} (hV : RvOk V) {W : World} {G : Gl} (hI : Inv V W [] G) :
    Calls Try.prog 24 #[.pointer (some ⟨V.mb, 0, none⟩), .string ⟨#[109, 97, 105, 110]⟩, .slice none 0 0, .int .i64 (-1)] W fun e w' => e = .returned (.tuple #[]) ∧ ∃ cb rb, Inv V w' [(cb, rb, newFr V.F mainB [] (-1))] G := enter_inv hV hI
def RunPost (V : Rv) (e : Ending) (w' : World) : Prop := e = .returned (.tuple #[]) ∧ ∃ en v G ks, runT V.F V.GS V.inp V.E.fuel = .fin en v G ∧ InvE V w' ks G en v
theorem leaves_any {R : Ending → World → Prop} {t1 t2 : Array Value} : ∀ (ds : List Deferred) (u : FrameMode) (w : World), Leaves Try.prog Try.f17 t1 R ds u w → Leaves Try.prog Try.f17 t2 R ds u w
  | [], .returning, w, h => by
    obtain ⟨v, hv, hR⟩ := h
    exact ⟨v, by rw [← hv]; simp [results, Try.results17], hR⟩
  | [], .panicking chain, w, h => h
  | [], .run, _, h => h
  | d :: ds, u, w, h => by
    obtain ⟨h1, fv, cap, f, args, h2, h3, h4⟩ := h
    refine ⟨h1, fv, cap, f, args, h2, h3, ?_⟩
    refine (show CallsD _ _ _ _ _ _ from fun c0 cs hu => ?_)
    obtain ⟨e, u', w', fr, hq, hr⟩ := h4 c0 cs hu
    refine ⟨e, u', w', fr, ?_, hr⟩
    cases e with
    | returned v => exact leaves_any ds _ _ hq
    | panicked chain => exact leaves_any ds _ _ hq
    | outgrown => exact hq
theorem panic_put {R : Ending → World → Prop} {c : List PanicEntry} {a : Act} {w : World} {N : Option Tmp} {v : Value} (h : bodyPostD Try.prog Try.f17 R (.panic c) (a.put N v) w) : bodyPostD Try.prog Try.f17 R (.panic c) a w := by
  have e : (a.put N v).defers = a.defers := by cases N <;> rfl
  have h2 : Leaves Try.prog Try.f17 (a.put N v).tmps R (a.put N v).defers (.panicking c) w := h
  rw [e] at h2
  exact leaves_any _ _ _ h2
theorem AL2 {w : World} {o : Obj} {a : Addr} {v : Value} (h : w.cell? a = some v) : (w.alloc o).cell? a = some v := pw_cell_below (below_alloc (Below.refl _ _) o) h
theorem Inv.tick {V : Rv} {W w1 : World} {ks : List Kf} {G : Gl} {cv tv : Value} (hI : Inv V W ks G) (hm : W.heap[V.mb]? = some (.cells (mC V.E ⟨cv, 0, 0, tv, G.st, G.rd⟩) 54 (0, 0))) (ht : Turned W w1 V.mb (mC V.E ⟨cv, 0, 0, tv, G.st + 1, G.rd⟩) 54) : Inv V w1 ks G.tick := by
  obtain ⟨cv2, tv2, h⟩ := hI
  have h2 : W.heap[V.mb]? = some (.cells (mC V.E ⟨cv2, 0, 0, tv2, G.st, G.rd⟩) 54 (0, 0)) := h.at List.mem_cons_self
  rw [h2] at hm
  injection hm with hm
  injection hm with hm
  have e1 : cv2 = cv := by have := congrArg (fun a : Array Value => a.getD 4 .nilIface) hm; exact this
  have e2 : tv2 = tv := by have := congrArg (fun a : Array Value => a.getD 7 .nilIface) hm; exact this
  subst e1 e2
  exact ⟨cv2, tv2, Hp.turn (A := []) h ht⟩
theorem Inv.at_c {V : Rv} {W : World} {cb rb : Nat} {fr : Fr} {rest : List Kf} {G : Gl} (hI : Inv V W ((cb, rb, fr) :: rest) G) : W.heap[cb]? = some (.cells (V.frC rb fr) 70 (0, 0)) ∧ cb ≠ V.mb ∧ Below V.w0.heap.size V.w0 W := by
  obtain ⟨cv, tv, h⟩ := hI
  exact ⟨h.top.c, h.top.cm, h.below⟩
theorem Inv.on {V : Rv} {W w1 : World} {cb rb : Nat} {fr fr' : Fr} {rest : List Kf} {G : Gl} (hI : Inv V W ((cb, rb, fr) :: rest) G) (hr : fr'.regs = fr.regs) (ht : Turned W w1 cb (V.frC rb fr') 70) : Inv V w1 ((cb, rb, fr') :: rest) G := by
  obtain ⟨cv, tv, h⟩ := hI
  exact ⟨cv, tv, Inv.call (fr := fr) (fr' := fr') hr h ht⟩
theorem Inv.tr_ {V : Rv} {W w1 : World} {ks : List Kf} {G : Gl} (hI : Inv V W ks G) (ht : Tr nil_ W w1) : Inv V w1 ks G := by
  obtain ⟨cv, tv, h⟩ := hI
  exact ⟨cv, tv, h.tr_ ht⟩
theorem Inv.bxh {V : Rv} {W : World} {bx : Nat} {ks : List Kf} {G : Gl} (hx : (bx, #[Value.pointer (some ⟨V.mb, 0, none⟩)], 49) ∈ V.xs) (h : Inv V W ks G) : W.heap[bx]? = some (.cells #[.pointer (some ⟨V.mb, 0, none⟩)] 49 (0, 0)) := by
  obtain ⟨cv, tv, h⟩ := h
  exact h.at (b := (bx, #[.pointer (some ⟨V.mb, 0, none⟩)], 49)) (by unfold Rv.LL; simp [hx])
theorem Inv.bx_ {V : Rv} {W : World} {bx : Nat} {ks : List Kf} {G : Gl} (hx : (bx, #[Value.pointer (some ⟨V.mb, 0, none⟩)], 49) ∈ V.xs) (h : Inv V W ks G) : W.cell? ⟨bx, 0, none⟩ = some (.pointer (some ⟨V.mb, 0, none⟩)) := by
  obtain ⟨cv, tv, h⟩ := h
  exact (blk_cell (h.at (b := (bx, #[.pointer (some ⟨V.mb, 0, none⟩)], 49)) (by unfold Rv.LL; simp [hx])) 0).trans rfl
theorem on_store {V : Rv} {W : World} {cb rb : Nat} {fr : Fr} {rest : List Kf} {G : Gl} (hI : Inv V W ((cb, rb, fr) :: rest) G) : Inv V (W.setCell ⟨cb, 3, none⟩ (.int .i64 ((fr.ins : Int) + 1))) ((cb, rb, fr.on fr.regs) :: rest) G := by
  refine Inv.on hI rfl ⟨blk_put hI.at_c.1 3 _ ?_, (Tr.refl _ _).set (S := one cb) (.inl (one_self cb)) _⟩
  simp [Rv.frC, fC, Fr.on]
theorem ins_nextL {V : Rv} (hV : RvOk V) {W : World} {cb rb : Nat} {fr : Fr} {rest : List Kf} {G : Gl} (hI : Inv V W ((cb, rb, fr.on fr.regs) :: rest) G.tick) (hF : OkFr V.F fr) (hi : fr.ins + 1 ≤ (blkOf V.F fr).f0.length) (hG : OkGl V.GS G) (x : S44) (hx : (blkOf V.F fr).f0[fr.ins]? = some x) (hX : OkIns V.F V.GS (fnOf V.F fr.fn).f2 x)
    (hrl : rest.length ≤ 31) (htr : G.tr.length ≤ 1000000) (A7 : Option Addr) (c7 : Nat) (hc7 : x.f7.length ≤ c7) (h7 : (Kd.int .i64).C W A7 x.f7.length x.f7) (hlt : (G.st : Int) < V.E.fuel) {st2 : List Fr} {G2 : Gl} (hs : stepC V.F V.GS V.inp V.E.fuel fr (rest.map (·.2.2)) G = .go st2 G2) :
    Calls Try.prog 26 #[.pointer (some ⟨V.mb, 0, none⟩), .pointer (some ⟨cb, 0, none⟩), .agg #[.int .i64 x.f0, .int .i64 x.f1, .int .i64 x.f2, .int .i64 x.f3, .int .i64 x.f4, .int .i32 x.f5, .string x.f6, .slice A7 x.f7.length c7]] W fun e w' => e = .returned (.tuple #[]) ∧ ∃ ks2 : List Kf, ks2.map (·.2.2) = st2 ∧ Inv V w' ks2 G2 := ins_next hV hI hF hi hG x hx hX hrl htr A7 c7 hc7 h7 hlt hs
theorem ins_finL {V : Rv} (hV : RvOk V) {W : World} {cb rb : Nat} {fr : Fr} {rest : List Kf} {G : Gl} (hI : Inv V W ((cb, rb, fr.on fr.regs) :: rest) G.tick) (hF : OkFr V.F fr) (hi : fr.ins + 1 ≤ (blkOf V.F fr).f0.length) (hG : OkGl V.GS G) (x : S44) (hx : (blkOf V.F fr).f0[fr.ins]? = some x) (hX : OkIns V.F V.GS (fnOf V.F fr.fn).f2 x)
    (hrl : rest.length ≤ 31) (htr : G.tr.length ≤ 1000000) (A7 : Option Addr) (c7 : Nat) (hc7 : x.f7.length ≤ c7) (h7 : (Kd.int .i64).C W A7 x.f7.length x.f7) (hlt : (G.st : Int) < V.E.fuel) {c v : Int} {G2 : Gl} (hs : stepC V.F V.GS V.inp V.E.fuel fr (rest.map (·.2.2)) G = .fin c v G2) :
    Calls Try.prog 26 #[.pointer (some ⟨V.mb, 0, none⟩), .pointer (some ⟨cb, 0, none⟩), .agg #[.int .i64 x.f0, .int .i64 x.f1, .int .i64 x.f2, .int .i64 x.f3, .int .i64 x.f4, .int .i32 x.f5, .string x.f6, .slice A7 x.f7.length c7]] W fun e w' => e = .panicked [{ v := .iface 66 (.int .i64 c), recovered := false }] ∧ v = 0 ∧ ∃ ks2 : List Kf, Inv V w' ks2 G2 := ins_fin hV hI hF hi hG x hx hX hrl htr A7 c7 hc7 h7 hlt hs
theorem end_nextL {V : Rv} (hV : RvOk V) {W : World} {cb rb : Nat} {fr : Fr} {rest : List Kf} {G : Gl} (hI : Inv V W ((cb, rb, fr) :: rest) G.tick) (hF : OkFr V.F fr) (hS : OkSt V.F (fr :: rest.map (·.2.2))) (hx : (blkOf V.F fr).f0[fr.ins]? = none)
    (hrl : rest.length ≤ 31) (A : Option Addr) (n c : Nat) (hlt : (G.st : Int) < V.E.fuel) {st2 : List Fr} {G2 : Gl} (hs : stepC V.F V.GS V.inp V.E.fuel fr (rest.map (·.2.2)) G = .go st2 G2) :
    Calls Try.prog 27 #[.pointer (some ⟨V.mb, 0, none⟩), .pointer (some ⟨cb, 0, none⟩), .agg #[.slice A n c, .int .i64 (blkOf V.F fr).f1, .int .i64 (blkOf V.F fr).f2, .int .i64 (blkOf V.F fr).f3, .int .i64 (blkOf V.F fr).f4]] W fun e w' => e = .returned (.bool false) ∧ ∃ ks2 : List Kf, ks2.map (·.2.2) = st2 ∧ Inv V w' ks2 G2 := end_next hV hI hF hS hx hrl (.slice A n c) rfl hlt hs
theorem end_finL {V : Rv} (hV : RvOk V) {W : World} {cb rb : Nat} {fr : Fr} {rest : List Kf} {G : Gl} (hI : Inv V W ((cb, rb, fr) :: rest) G.tick) (hF : OkFr V.F fr) (hS : OkSt V.F (fr :: rest.map (·.2.2))) (hx : (blkOf V.F fr).f0[fr.ins]? = none)
    (hrl : rest.length ≤ 31) (A : Option Addr) (n c2 : Nat) (hlt : (G.st : Int) < V.E.fuel) {c v : Int} {G2 : Gl} (hs : stepC V.F V.GS V.inp V.E.fuel fr (rest.map (·.2.2)) G = .fin c v G2) :
    Calls Try.prog 27 #[.pointer (some ⟨V.mb, 0, none⟩), .pointer (some ⟨cb, 0, none⟩), .agg #[.slice A n c2, .int .i64 (blkOf V.F fr).f1, .int .i64 (blkOf V.F fr).f2, .int .i64 (blkOf V.F fr).f3, .int .i64 (blkOf V.F fr).f4]] W fun e w' => e = .returned (.bool true) ∧ c = 1 ∧ InvE V w' [] G2 0 v := end_fin hV hI hF hS hx hrl (.slice A n c2) rfl hlt hs
theorem stepC_st {F : List S47} {GS : List S57} {inp : List Int} {fuel : Int} {fr : Fr} {rest : List Fr} {G : Gl} {st2 : List Fr} {G2 : Gl} (h : stepC F GS inp fuel fr rest G = .go st2 G2) : G2.st = G.st + 1 ∧ G2.tr.length ≤ G.tr.length + 1 := by
  unfold stepC at h
  split at h
  · cases h
  split at h
  · split at h
    · rename_i r G3 hins
      injection h with h1 h2
      subst h2
      have := insF_st hins
      exact ⟨this.1, this.2⟩
    · cases h
    · split at h
      · cases h
      · injection h with h1 h2
        subst h2
        exact ⟨rfl, Nat.le_succ _⟩
  · split at h
    · injection h with h1 h2; subst h2; exact ⟨rfl, Nat.le_succ _⟩
    split at h
    · injection h with h1 h2; subst h2; exact ⟨rfl, Nat.le_succ _⟩
    · cases rest with
      | nil => cases h
      | cons p q => injection h with h1 h2; subst h2; exact ⟨rfl, Nat.le_succ _⟩
theorem InvE.box {V : Rv} {W : World} {bx : Nat} {ks : List Kf} {G : Gl} {en va : Int} (hx : (bx, #[Value.pointer (some ⟨V.mb, 0, none⟩)], 49) ∈ V.xs) (h : InvE V W ks G en va) : W.heap[bx]? = some (.cells #[.pointer (some ⟨V.mb, 0, none⟩)] 49 (0, 0)) := by
  obtain ⟨cv, tv, h⟩ := h
  exact h.at (b := (bx, #[.pointer (some ⟨V.mb, 0, none⟩)], 49)) (by unfold Rv.LL; simp [hx])
theorem InvE.ends {V : Rv} {W w1 : World} {ks : List Kf} {G : Gl} {en va c : Int} (h : InvE V W ks G en va) (hs : ∀ m : MV, W.heap[V.mb]? = some (.cells (mC V.E m) 54 (0, 0)) → Turned W w1 V.mb (mC V.E { m with en := c }) 54) : InvE V w1 ks G c va := by
  obtain ⟨cv, tv, h⟩ := h
  have hm := hs ⟨cv, en, va, tv, G.st, G.rd⟩ (h.at List.mem_cons_self)
  exact ⟨cv, tv, Hp.turn (A := []) h hm⟩
theorem InvE.m5 {V : Rv} {W : World} {ks : List Kf} {G : Gl} {en va : Int} (h : InvE V W ks G en va) : W.cell? ⟨V.mb, 5, none⟩ = some (.int .i64 en) ∧ W.frozen? ⟨V.mb, 5, none⟩ = false := by
  obtain ⟨cv, tv, h⟩ := h
  have hm : W.heap[V.mb]? = some (.cells (mC V.E ⟨cv, en, va, tv, G.st, G.rd⟩) 54 (0, 0)) := h.at List.mem_cons_self
  exact ⟨(blk_cell hm 5).trans rfl, blk_frozen hm 5⟩
theorem panic_end {V : Rv} {bx : Nat} (hx : (bx, #[Value.pointer (some ⟨V.mb, 0, none⟩)], 49) ∈ V.xs) {a : Act} {w : World} {c va : Int} {ks : List Kf} {G : Gl} (hd : a.defers = [{ target := Target.fn (Fn.func 23) #[Value.pointer (some ⟨bx, 0, none⟩)], args := #[] }])
    (hI : InvE V w ks G 0 va) (hr : runT V.F V.GS V.inp V.E.fuel = .fin c va G) : bodyPostD Try.prog Try.f17 (RunPost V) (.panic [{ v := .iface 66 (.int .i64 c), recovered := false }]) a w := by
  show Leaves Try.prog Try.f17 a.tmps (RunPost V) a.defers _ w
  rw [hd]
  refine leaves_cons (f := 23) (args := #[.pointer (some ⟨bx, 0, none⟩)]) (by simp) (by simp [go_sem]) ?_
  have hbx := hI.box hx
  obtain ⟨cv, tv, h⟩ := hI
  have hm : w.heap[V.mb]? = some (.cells (mC V.E ⟨cv, 0, va, tv, G.st, G.rd⟩) 54 (0, 0)) := h.at List.mem_cons_self
  refine (catch_panicking V.E _ w V.mb bx hm hbx c []).mono ?_
  rintro e u' w'' ⟨rfl, rfl, ht⟩
  refine ⟨.tuple #[], by simp [results, Try.results17], rfl, c, va, G, ks, hr, cv, tv, Hp.turn (A := []) h ht⟩
theorem ret_end {V : Rv} {bx : Nat} {a : Act} {w : World} {va : Int} {ks : List Kf} {G : Gl} {x : Exit} (hx : x = .normal ∨ x = .ret) (hd : a.defers = [{ target := Target.fn (Fn.func 23) #[Value.pointer (some ⟨bx, 0, none⟩)], args := #[] }])
    (hI : InvE V w ks G 1 va) (hr : runT V.F V.GS V.inp V.E.fuel = .fin 1 va G) : bodyPostD Try.prog Try.f17 (RunPost V) x a w := by
  have h : Leaves Try.prog Try.f17 a.tmps (RunPost V) a.defers .returning w := by
    rw [hd]
    refine leaves_cons (f := 23) (args := #[.pointer (some ⟨bx, 0, none⟩)]) (by simp) (by simp [go_sem]) ?_
    refine (catch_idle bx w).mono ?_
    rintro e u' w'' ⟨rfl, rfl, rfl⟩
    exact ⟨.tuple #[], by simp [results, Try.results17], rfl, 1, va, G, ks, hr, hI⟩
  rcases hx with rfl | rfl <;> exact h
structure Seen (V : Rv) (W : World) (bx cb rb : Nat) (fr : Fr) (rest : List Kf) (G : Gl) (ab cap : Nat) (tv : Value) (Ab : Addr) (cB : Nat) (Ai : Option Addr) (cI : Nat) : Prop where
  bx : W.heap[bx]? = some (.cells #[.pointer (some ⟨V.mb, 0, none⟩)] 49 (0, 0))
  mb : W.heap[V.mb]? = some (.cells (mC V.E ⟨.slice (some ⟨ab, 0, none⟩) (rest.length + 1) cap, 0, 0, tv, G.st, G.rd⟩) 54 (0, 0))
  ab : W.cell? ⟨ab, rest.length, none⟩ = some (.pointer (some ⟨cb, 0, none⟩))
  cb : W.heap[cb]? = some (.cells (V.frC rb fr) 70 (0, 0))
  fn : W.cell? ⟨(V.fa fr.fn).block, (V.fa fr.fn).off + 3, none⟩ = some (.slice (some Ab) (fnOf V.F fr.fn).f3.length cB)
  b0 : W.cell? (Ab.add (fr.blk * 5)) = some (.slice Ai (blkOf V.F fr).f0.length cI)
  b1 : W.cell? ⟨(Ab.add (fr.blk * 5)).block, (Ab.add (fr.blk * 5)).off + 1, none⟩ = some (.int .i64 (blkOf V.F fr).f1)
  b2 : W.cell? ⟨(Ab.add (fr.blk * 5)).block, (Ab.add (fr.blk * 5)).off + 2, none⟩ = some (.int .i64 (blkOf V.F fr).f2)
  b3 : W.cell? ⟨(Ab.add (fr.blk * 5)).block, (Ab.add (fr.blk * 5)).off + 3, none⟩ = some (.int .i64 (blkOf V.F fr).f3)
  b4 : W.cell? ⟨(Ab.add (fr.blk * 5)).block, (Ab.add (fr.blk * 5)).off + 4, none⟩ = some (.int .i64 (blkOf V.F fr).f4)
  ins : Kd.C k44 V.w0 Ai (blkOf V.F fr).f0.length (blkOf V.F fr).f0
  insc : (blkOf V.F fr).f0.length ≤ cI
theorem seen {V : Rv} (hV : RvOk V) {W : World} {bx cb rb : Nat} {fr : Fr} {rest : List Kf} {G : Gl} (hx : (bx, #[Value.pointer (some ⟨V.mb, 0, none⟩)], 49) ∈ V.xs) (hI : Inv V W ((cb, rb, fr) :: rest) G) (hF : OkFr V.F fr) :
    ∃ ab cap tv Ab cB Ai cI, Seen V W bx cb rb fr rest G ab cap tv Ab cB Ai cI := by
  obtain ⟨cv, tv, h⟩ := hI
  have T := h.top
  obtain ⟨ab, cap, hcv, hcap, hcells⟩ := calls_form h.calls (by simp [cbsOf])
  have hl1 : (cbsOf ((cb, rb, fr) :: rest)).length = rest.length + 1 := by rw [cbs_len]; simp
  have hat := hcells rest.length (by rw [hl1]; omega)
  have hq2 : (cbsOf ((cb, rb, fr) :: rest))[rest.length]'(by rw [hl1]; omega) = cb := by
    have : (cbsOf ((cb, rb, fr) :: rest))[rest.length]? = some cb := by
      rw [cbs_top, List.getElem?_append_right (by rw [cbs_len]; omega), cbs_len, Nat.sub_self]
      rfl
    rw [List.getElem?_eq_getElem (by rw [hl1]; omega)] at this
    exact Option.some.inj this
  rw [hq2] at hat
  rw [hl1] at hcv
  subst hcv
  have hfl := hF.fn
  have hbl := hF.blk
  obtain ⟨ad, A3, c3, had, _, _, _, hc3, hl3, hC3⟩ := at_T47 hV.hF (fr.fn : Int) (by omega) (by omega)
  injection had with had
  subst had
  have hrd : rd_T47 V.F (fr.fn : Int) = fnOf V.F fr.fn := by
    show V.F.getD ((fr.fn : Int)).toNat z47 = _
    rw [Int.toNat_natCast]
    rfl
  rw [hrd] at hc3 hl3 hC3
  rw [Int.toNat_natCast] at hc3
  obtain ⟨Ab, Ai, cI, hA3, hb0, hb1, hb2, hb3, hb4, hli, hCi⟩ := at_T41 hC3 (fr.blk : Int) (by omega) (by omega)
  subst hA3
  have hrb : rd_T41 (fnOf V.F fr.fn).f3 (fr.blk : Int) = blkOf V.F fr := by
    show (fnOf V.F fr.fn).f3.getD ((fr.blk : Int)).toNat z41 = _
    rw [Int.toNat_natCast]
    rfl
  rw [hrb] at hb0 hb1 hb2 hb3 hb4 hli hCi
  rw [Int.toNat_natCast] at hb0 hb1 hb2 hb3 hb4
  exact ⟨ab, cap, tv, Ab, c3, Ai, cI, h.at (b := (bx, #[.pointer (some ⟨V.mb, 0, none⟩)], 49)) (by unfold Rv.LL; simp [hx]), T.m, hat, T.c, pw_cell_below h.below hc3, pw_cell_below h.below hb0, pw_cell_below h.below hb1, pw_cell_below h.below hb2, pw_cell_below h.below hb3, pw_cell_below h.below hb4, hCi, hli⟩
end Go.Proofs.Ytabkinlpbefjgaa.L

