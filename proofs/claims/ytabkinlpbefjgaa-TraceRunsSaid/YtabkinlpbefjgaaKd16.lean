/- Texts of this seat that a claim bears, put together by this session's own program shake.py: TrZd, TrZe, TrZf, TrZg. -/
import Derived.Test.YtabkinlpbefjgaaKd15
namespace Go.Proofs.Ytabkinlpbefjgaa.L
open Go.RowKit Go.Proofs.Ytabkinlpbefjgaa.X Go.Proofs.YtabkinlpbefjgaaW.PrintWords Go.Proofs.YtabkinlpbefjgaaW.PrintLast Go.Proofs.YtabkinlpbefjgaaW.PrintMore
attribute [local go_sem] max2_int min2_int max_two min_two max_three min_three max_four min_four   -- for this text's walks alone
set_option linter.unusedVariables false
set_option linter.unusedSimpArgs false
open Go.Proofs.Ytabkinlpbefjgaa.Pure
structure MayX (F : List S47) (GS : List S57) (x : S44) : Prop where
  mem : x.f0 = 5 ∨ x.f0 = 6 → glAt GS x.f6 < GS.length ∧ decide (0 < (GS.getD (glAt GS x.f6) z57).f1) = decide (0 ≤ x.f3)
  call : x.f0 = 7 → fnAt F x.f6 < F.length ∧ (fnOf F (fnAt F x.f6)).f1 = (x.f7.length : Int)
structure MayG (GS : List S57) (k : Nat) : Prop where
  name : (GS.getD k z57).f0.size ≤ 64
  size : 0 ≤ (GS.getD k z57).f1 ∧ (GS.getD k z57).f1 ≤ 4096
  first : glAt GS (GS.getD k z57).f0 = k
structure MayN (F : List S47) (GS : List S57) (k : Nat) : Prop where
  fn : MayF (fnOf F k)
  first : fnAt F (fnOf F k).f0 = k
  apart : ¬ glAt GS (fnOf F k).f0 < GS.length
  ins : ∀ b ∈ (fnOf F k).f3, ∀ x ∈ b.f0, MayX F GS x
structure MayM (F : List S47) (GS : List S57) : Prop where
  few : GS.length ≤ 64
  gl : ∀ k, k < GS.length → MayG GS k
  main : fnAt F mainB < F.length
  main0 : (fnOf F (fnAt F mainB)).f1 ≤ 0
  fns : ∀ k, k < F.length → MayN F GS k
theorem take_more {α : Type} {xs : List α} {k : Nat} {z x : α} {P : α → Prop} (hk : k < xs.length) (hx : xs.getD k z = x) (h : ∀ i ∈ xs.take k, P i) (hp : P x) : ∀ i ∈ xs.take (k + 1), P i := by
  intro i hi
  rw [List.take_succ_eq_append_getElem hk] at hi
  rcases List.mem_append.1 hi with h1 | h1
  · exact h i h1
  · rw [List.mem_singleton.1 h1]
    rw [List.getD_eq_getElem?_getD, List.getElem?_eq_getElem hk] at hx
    exact (show xs[k] = x from hx) ▸ hp
theorem carry {w w1 : World} (h : Below w.heap.size w w1) {a : Addr} {v : Value} (hc : w.cell? a = some v) : w1.cell? a = some v := (h.cell (World.block_lt_of_cell? w _ hc)).trans hc
theorem posOf_lt {n len : Nat} (h : n < len) : posOf n len = (n : Int) := if_pos h
theorem posOf_ge {n len : Nat} (h : len ≤ n) : posOf n len = -1 := if_neg (by omega)
theorem posOf_eq {n len k : Nat} (h : posOf n len = (k : Int)) : n = k := by
  rcases Nat.lt_or_ge n len with h1 | h1
  · rw [posOf_lt h1] at h; omega
  · rw [posOf_ge h1] at h; omega
theorem posOf_neg {n len : Nat} (h : posOf n len < 0) : ¬ n < len := by
  intro h1
  rw [posOf_lt h1] at h; omega
theorem fill2 {W : World} {g : Nat} {t : TypeId} {a0 a1 u0 u1 : Value} (h : W.heap[g]? = some (.cells #[a0, a1] t (0, 0))) : ((W.setCell ⟨g, 0, none⟩ u0).setCell ⟨g, 1, none⟩ u1).heap[g]? = some (.cells #[u0, u1] t (0, 0)) := by
  have h0 : (W.setCell ⟨g, 0, none⟩ u0).heap[g]? = some (.cells #[u0, a1] t (0, 0)) := blk_put h 0 u0 rfl
  have h1 : ((W.setCell ⟨g, 0, none⟩ u0).setCell ⟨g, 1, none⟩ u1).heap[g]? = some (.cells #[u0, u1] t (0, 0)) := blk_put h0 1 u1 rfl
  exact h1
theorem fillB2 {B : Nat} {w0 W : World} {g : Nat} {u0 u1 : Value} (hB : Below B w0 W) (hg : B ≤ g) : Below B w0 ((W.setCell ⟨g, 0, none⟩ u0).setCell ⟨g, 1, none⟩ u1) := (Below.setCell (Below.setCell hB (p := ⟨g, 0, none⟩) hg u0) (p := ⟨g, 1, none⟩) hg u1)
theorem fill4 {W : World} {g : Nat} {t : TypeId} {a0 a1 a2 a3 u0 u1 u2 u3 : Value} (h : W.heap[g]? = some (.cells #[a0, a1, a2, a3] t (0, 0))) : ((((W.setCell ⟨g, 0, none⟩ u0).setCell ⟨g, 1, none⟩ u1).setCell ⟨g, 2, none⟩ u2).setCell ⟨g, 3, none⟩ u3).heap[g]? = some (.cells #[u0, u1, u2, u3] t (0, 0)) := by
  have h0 : (W.setCell ⟨g, 0, none⟩ u0).heap[g]? = some (.cells #[u0, a1, a2, a3] t (0, 0)) := blk_put h 0 u0 rfl
  have h1 : ((W.setCell ⟨g, 0, none⟩ u0).setCell ⟨g, 1, none⟩ u1).heap[g]? = some (.cells #[u0, u1, a2, a3] t (0, 0)) := blk_put h0 1 u1 rfl
  have h2 : (((W.setCell ⟨g, 0, none⟩ u0).setCell ⟨g, 1, none⟩ u1).setCell ⟨g, 2, none⟩ u2).heap[g]? = some (.cells #[u0, u1, u2, a3] t (0, 0)) := blk_put h1 2 u2 rfl
  have h3 : ((((W.setCell ⟨g, 0, none⟩ u0).setCell ⟨g, 1, none⟩ u1).setCell ⟨g, 2, none⟩ u2).setCell ⟨g, 3, none⟩ u3).heap[g]? = some (.cells #[u0, u1, u2, u3] t (0, 0)) := blk_put h2 3 u3 rfl
  exact h3
theorem fillB4 {B : Nat} {w0 W : World} {g : Nat} {u0 u1 u2 u3 : Value} (hB : Below B w0 W) (hg : B ≤ g) : Below B w0 ((((W.setCell ⟨g, 0, none⟩ u0).setCell ⟨g, 1, none⟩ u1).setCell ⟨g, 2, none⟩ u2).setCell ⟨g, 3, none⟩ u3) := (Below.setCell (Below.setCell (Below.setCell (Below.setCell hB (p := ⟨g, 0, none⟩) hg u0) (p := ⟨g, 1, none⟩) hg u1) (p := ⟨g, 2, none⟩) hg u2) (p := ⟨g, 3, none⟩) hg u3)
set_option maxHeartbeats 8000000 in
set_option maxRecDepth 100000 in
theorem may_calls (GS : List S57) (F : List S47) (AG : Option Addr) (cG : Nat) (AF : Option Addr) (cF : Nat) (w : World) (hG : Kd.C k57 w AG GS.length GS) (hcG : GS.length ≤ cG) (hF : Kd.C k47 w AF F.length F) (hcF : F.length ≤ cF) (hGl : GS.length ≤ 1000000) (hFl : F.length ≤ 1000000) :
    Calls Try.prog 15 #[.agg #[.slice AG GS.length cG, .slice AF F.length cF]] w (Says (MayM F GS) w) := by
  have HGR := Aside0.mk hG
  have HF := Aside0.mk hF
  have HCG := Aside0.mk hcG
  have HCF := Aside0.mk hcF
  have HGL := Aside0.mk hGl
  have HFL := Aside0.mk hFl
  clear hG hF hcG hcF hGl hFl
  go_enter Try.func15, Try.ntmps15
  go_wp2
  all_goals first
    | (go_ret; exact Says.no (Below.alloc (Below.refl _ _) (Nat.le_refl _) _))
    | skip
  have HFEW : Aside0 (GS.length ≤ 64) := ⟨by omega⟩
  have hb1 : Below w.heap.size w (w.alloc (.cells #[.slice AG GS.length cG, .slice AF F.length cF] 25)) := Below.alloc (Below.refl _ _) (Nat.le_refl _) _
  have hx1 := blk_new w (.cells #[.slice AG GS.length cG, .slice AF F.length cF] 25)
  generalize w.alloc (.cells #[.slice AG GS.length cG, .slice AF F.length cF] 25) = w1 at hb1 hx1 ⊢
  have HB1 := Aside0.mk hb1
  have HM1 := Aside0.mk hx1
  clear hb1 hx1
  go_loopg [3, 22] (GS.length) (fun kq vz v wr => ∃ (k : Nat) (z : Int), Aside0 (k + kq = GS.length) ∧ vz = .int .i64 z ∧ v = .int .i64 (k : Int) ∧ Aside0 (Below w.heap.size w wr) ∧ Aside0 (wr.heap[w.heap.size]? = some (.cells #[.slice AG GS.length cG, .slice AF F.length cF] 25 (0, 0))) ∧ Aside0 (∀ i, i < k → MayG GS i))
  case atStart => exact ⟨0, 0, ⟨by omega⟩, rfl, rfl, HB1, HM1, ⟨fun i hi => absurd hi (Nat.not_lt_zero _)⟩⟩
  case round =>
    obtain ⟨k, z, HK, rfl, rfl, HBL, HML, HV⟩ := hrel
    by_cases hlt : k < GS.length
    · cases gk with
      | zero => exact absurd HK.out (by omega)
      | succ q1 =>
        obtain ⟨ad, hA, z0, z1⟩ := at_T57 HGR.out (k : Int) (by omega) (by omega)
        rw [Int.toNat_natCast, rd57] at z0 z1
        obtain ⟨g, hz⟩ : ∃ g, GS.getD k z57 = g := ⟨_, rfl⟩
        rw [hz] at z0 z1
        replace z0 := carry HBL.out z0
        replace z1 := carry HBL.out z1
        have HGE := Aside0.mk hz
        subst hA
        clear hz
        go_wp2_with (first
    | ((with_reducible refine gate_dst (N := 5) rfl ?_)
       refine box_event rfl (N := 5) rfl (cs := #[.string (⟨#[]⟩ : ByteArray), .int .i64 0]) (t := 57) ?hr ?_
       case hr => first | (go_simp; done) | (go_simp; rfl)
       intro gx hg w1x hbox hb; have hz0 : w1x.cell? ⟨gx, 0, none⟩ = some (.string (⟨#[]⟩ : ByteArray)) := (blk_cell hbox 0).trans rfl; have hf0 := blk_frozen hbox 0; have hz1 : w1x.cell? ⟨gx, 1, none⟩ = some (.int .i64 0) := (blk_cell hbox 1).trans rfl; have hf1 := blk_frozen hbox 1
       have HG := Aside0.mk (Nat.le_of_eq hg.symm)
       clear hg)
    | ((with_reducible refine gate_store (t := 57) (p := 5) rfl ?_)
       refine store_event (w1 := ((w1x.setCell ⟨gx, 0, none⟩ (.string g.f0)).setCell ⟨gx, 1, none⟩ (.int .i64 g.f1))) rfl (t := 57) (p := 5) rfl rfl ?hr ?_
       case hr => first | (go_simp; done) | (go_simp; rfl)
       intro wx hw
       have hcb := hw ▸ fill2 (g := gx) hbox
       have hbl := hw ▸ fillB2 (g := gx) hb HG.out
       have HBX := Aside0.mk (below_step HBL.out hbl)
       have hmx := blk_below (g := w.heap.size) HML.out hbl
       have HMX := Aside0.mk hmx
       have HOX := Aside0.mk hcb
       have m0 := (blk_cell hmx 0).trans rfl
       have m1 := (blk_cell hmx 1).trans rfl
       have y0 := (blk_cell hcb 0).trans rfl
       have y1 := (blk_cell hcb 1).trans rfl
       clear hmx hcb hbl hw hbox hb hz0 hf0 hz1 hf1)
    | (go_at_call 19; (with_reducible refine (isname_calls _ _).mono ?_)
       intro e w5 hc7
       obtain ⟨bb, rfl, hbb, hB_⟩ := hc7
       have HYS := Aside0.mk hbb
       clear hbb
       have HB5 := Aside0.mk (below_step HBX.out hB_)
       have hm_ := blk_below HMX.out hB_
       have HM5 := Aside0.mk hm_
       have m0 := (blk_cell hm_ 0).trans rfl
       have m1 := (blk_cell hm_ 1).trans rfl
       have ho_ := blk_below HOX.out hB_
       have HO5 := Aside0.mk ho_
       have y0 := (blk_cell ho_ 0).trans rfl
       have y1 := (blk_cell ho_ 1).trans rfl
       clear ho_
       clear hm_ hB_
       cases bb)
    | (go_at_call 20; (with_reducible refine (glat_calls (some ad) cG GS AF cF F g.f0 _ (Kd.C_below HGR.out HB5.out) HCG.out (Kd.C_below HF.out HB5.out) HCF.out HGL.out).mono ?_)
       intro e w6 hc7
       obtain ⟨rfl, hB_⟩ := hc7
       have HB6 := Aside0.mk (below_step HB5.out hB_)
       have hm_ := blk_below HM5.out hB_
       have HM6 := Aside0.mk hm_
       have m0 := (blk_cell hm_ 0).trans rfl
       have m1 := (blk_cell hm_ 1).trans rfl
       clear hm_ hB_
       skip)
    | fail)
        all_goals first
          | (go_ret; first | exact Says.no HB6.out | exact Says.no HB5.out)
          | skip
        all_goals
          rename_i hq
          replace hq := hq.2
          have HEQ := Aside0.mk (posOf_eq (show posOf (glAt GS g.f0) GS.length = (k : Int) by simpa using hq))
          have HSZ : Aside0 (0 ≤ g.f1 ∧ g.f1 ≤ 4096) := ⟨by assumption, by assumption⟩
          clear hq
          go_roundg q1
          case measure => omega
          case rel =>
            refine ⟨k + 1, _, ⟨by have := HK.out; omega⟩, rfl, by first | exact nxt hlt (by have := HGL.out; omega) | rfl, HB6, HM6, ⟨?_⟩⟩
            intro i hi
            rcases Nat.lt_succ_iff_lt_or_eq.1 hi with h | rfl
            · exact HV.out i h
            · exact ⟨by rw [HGE.out]; exact HYS.out trivial, by rw [HGE.out]; exact HSZ.out, by rw [HGE.out]; exact HEQ.out⟩
    · obtain rfl : k = GS.length := by have := HK.out; omega
      have m0 := (blk_cell HML.out 0).trans rfl
      have m1 := (blk_cell HML.out 1).trans rfl
      go_wp2_with (first
    | (go_at_call 21; (with_reducible refine (fnat_calls AG cG GS AF cF F (⟨#[109, 97, 105, 110]⟩ : ByteArray) _ (Kd.C_below HGR.out HBL.out) HCG.out (Kd.C_below HF.out HBL.out) HCF.out HFL.out).mono ?_)
       intro e w7 hc7
       rcases Nat.lt_or_ge (fnAt F mainB) F.length with hm | hm
       all_goals first
         | (have hc8 : e = .returned (.int .i64 ((fnAt F mainB : Nat) : Int)) ∧ Below wr.heap.size wr w7 := by rw [← posOf_lt hm]; exact hc7
            obtain ⟨rfl, hB_⟩ := hc8
            clear hc7
            have HB7 := Aside0.mk (below_step HBL.out hB_)
            have hm_ := blk_below HML.out hB_
            have HM7 := Aside0.mk hm_
            have m0 := (blk_cell hm_ 0).trans rfl
            have m1 := (blk_cell hm_ 1).trans rfl
            obtain ⟨ad, A3, c3, hA, q0, q1, q2, q3, ql, qi⟩ := at_T47 HF.out (fnAt F mainB : Int) (by omega) (by omega)
            rw [Int.toNat_natCast, rd47] at q1
            replace q1 := carry HB7.out q1
            have HMN := Aside0.mk hm
            subst hA
            clear q0 q2 q3 ql qi
            clear hm_ hB_)
         | (have hc8 : e = .returned (.int .i64 (-1)) ∧ Below wr.heap.size wr w7 := by rw [← posOf_ge hm]; exact hc7
            obtain ⟨rfl, hB_⟩ := hc8
            have HB7 := Aside0.mk (below_step HBL.out hB_)
            clear hc7 hB_))
    | fail)
      all_goals first
        | (go_ret; exact Says.no HB7.out)
        | skip
      have HM0 : Aside0 ((fnOf F (fnAt F mainB)).f1 ≤ 0) := ⟨by omega⟩
      rename_i i1 iK iA
      clear i1 q1 hm
      go_loopg [75] (F.length) (fun kq v wr => ∃ k : Nat, Aside0 (k + kq = F.length) ∧ v = .int .i64 (k : Int) ∧ Aside0 (Below w.heap.size w wr) ∧ Aside0 (wr.heap[w.heap.size]? = some (.cells #[.slice AG GS.length cG, .slice (some ad) F.length cF] 25 (0, 0))) ∧ Aside0 (∀ i, i < k → MayN F GS i))
      case atStart => exact ⟨0, ⟨by omega⟩, rfl, HB7, HM7, ⟨fun i hi => absurd hi (Nat.not_lt_zero _)⟩⟩
      case round =>
        obtain ⟨k, HKF, rfl, HBF, HMF, HVF⟩ := hrel
        by_cases hlf : k < F.length
        · cases gk with
          | zero => exact absurd HKF.out (by omega)
          | succ q3 =>
            obtain ⟨ad2, A3, c3, hA, z0, z1, z2, z3, hl3, hi3⟩ := at_T47 HF.out (k : Int) (by omega) (by omega)
            rw [rd47] at z0 z1 z2 z3 hl3 hi3
            rw [Int.toNat_natCast] at z0 z1 z2 z3
            obtain ⟨f, hz⟩ : ∃ f, fnOf F k = f := ⟨_, rfl⟩
            rw [hz] at z0 z1 z2 z3 hl3 hi3
            obtain rfl : ad = ad2 := by injection hA
            replace z0 := carry HBF.out z0
            replace z1 := carry HBF.out z1
            replace z2 := carry HBF.out z2
            replace z3 := carry HBF.out z3
            have HFE := Aside0.mk hz
            have HL3 := Aside0.mk hl3
            have HI3 := Aside0.mk hi3
            have HM3 := Aside0.mk (Kd.C_max hi3)
            clear hz hl3 hi3 hA
            go_wp2_with (first
    | ((with_reducible refine gate_dst (N := 8) rfl ?_)
       refine box_event rfl (N := 8) rfl (cs := #[.string (⟨#[]⟩ : ByteArray), .int .i64 0, .int .i64 0, .slice none 0 0]) (t := 47) ?hr ?_
       case hr => first | (go_simp; done) | (go_simp; rfl)
       intro gx hg w1x hbox hb; have hz0 : w1x.cell? ⟨gx, 0, none⟩ = some (.string (⟨#[]⟩ : ByteArray)) := (blk_cell hbox 0).trans rfl; have hf0 := blk_frozen hbox 0; have hz1 : w1x.cell? ⟨gx, 1, none⟩ = some (.int .i64 0) := (blk_cell hbox 1).trans rfl; have hf1 := blk_frozen hbox 1; have hz2 : w1x.cell? ⟨gx, 2, none⟩ = some (.int .i64 0) := (blk_cell hbox 2).trans rfl; have hf2 := blk_frozen hbox 2; have hz3 : w1x.cell? ⟨gx, 3, none⟩ = some (.slice none 0 0) := (blk_cell hbox 3).trans rfl; have hf3 := blk_frozen hbox 3
       have HG := Aside0.mk (Nat.le_of_eq hg.symm)
       clear hg)
    | ((with_reducible refine gate_store (t := 47) (p := 8) rfl ?_)
       refine store_event (w1 := ((((w1x.setCell ⟨gx, 0, none⟩ (.string f.f0)).setCell ⟨gx, 1, none⟩ (.int .i64 f.f1)).setCell ⟨gx, 2, none⟩ (.int .i64 f.f2)).setCell ⟨gx, 3, none⟩ (.slice A3 f.f3.length c3))) rfl (t := 47) (p := 8) rfl rfl ?hr ?_
       case hr => first | (go_simp; done) | (go_simp; rfl)
       intro wx hw
       have hcb := hw ▸ fill4 (g := gx) hbox
       have hbl := hw ▸ fillB4 (g := gx) hb HG.out
       have HBX := Aside0.mk (below_step HBF.out hbl)
       have hmx := blk_below (g := w.heap.size) HMF.out hbl
       have HMX := Aside0.mk hmx
       have HOX := Aside0.mk hcb
       have m0 := (blk_cell hmx 0).trans rfl
       have m1 := (blk_cell hmx 1).trans rfl
       have y0 := (blk_cell hcb 0).trans rfl
       have y1 := (blk_cell hcb 1).trans rfl
       have y2 := (blk_cell hcb 2).trans rfl
       have y3 := (blk_cell hcb 3).trans rfl
       clear hmx hcb hbl hw hbox hb hz0 hf0 hz1 hf1 hz2 hf2 hz3 hf3)
    | (go_at_call 22; (with_reducible refine (mayfn_calls f A3 c3 _ (Kd.C_below HI3.out HBX.out) HL3.out).mono ?_)
       intro e w5 hc7
       obtain ⟨bb, rfl, hbb, hB_⟩ := hc7
       have HYS := Aside0.mk hbb
       clear hbb
       have HB5 := Aside0.mk (below_step HBX.out hB_)
       have hm_ := blk_below HMX.out hB_
       have HM5 := Aside0.mk hm_
       have m0 := (blk_cell hm_ 0).trans rfl
       have m1 := (blk_cell hm_ 1).trans rfl
       have ho_ := blk_below HOX.out hB_
       have HO5 := Aside0.mk ho_
       have y0 := (blk_cell ho_ 0).trans rfl
       have y3 := (blk_cell ho_ 3).trans rfl
       clear ho_
       clear hm_ hB_
       cases bb)
    | (go_at_call 21; (with_reducible refine (fnat_calls AG cG GS (some ad) cF F f.f0 _ (Kd.C_below HGR.out HB5.out) HCG.out (Kd.C_below HF.out HB5.out) HCF.out HFL.out).mono ?_)
       intro e w6 hc7
       obtain ⟨rfl, hB_⟩ := hc7
       have HB6 := Aside0.mk (below_step HB5.out hB_)
       have hm_ := blk_below HM5.out hB_
       have HM6 := Aside0.mk hm_
       have m0 := (blk_cell hm_ 0).trans rfl
       have m1 := (blk_cell hm_ 1).trans rfl
       have ho_ := blk_below HO5.out hB_
       have HO6 := Aside0.mk ho_
       have y0 := (blk_cell ho_ 0).trans rfl
       have y3 := (blk_cell ho_ 3).trans rfl
       clear ho_
       clear hm_ hB_
       skip)
    | (go_at_call 20; (with_reducible refine (glat_calls AG cG GS (some ad) cF F f.f0 _ (Kd.C_below HGR.out HB6.out) HCG.out (Kd.C_below HF.out HB6.out) HCF.out HGL.out).mono ?_)
       intro e w8 hc7
       obtain ⟨rfl, hB_⟩ := hc7
       have HB8 := Aside0.mk (below_step HB6.out hB_)
       have hm_ := blk_below HM6.out hB_
       have HM8 := Aside0.mk hm_
       have m0 := (blk_cell hm_ 0).trans rfl
       have m1 := (blk_cell hm_ 1).trans rfl
       have ho_ := blk_below HO6.out hB_
       have HO8 := Aside0.mk ho_
       have y0 := (blk_cell ho_ 0).trans rfl
       have y3 := (blk_cell ho_ 3).trans rfl
       clear ho_
       clear hm_ hB_
       skip)
    | fail)
            all_goals first
              | (go_ret; first | exact Says.no HB8.out | exact Says.no HB6.out | exact Says.no HB5.out)
              | skip
            rename_i e1 e0
            have HFA := Aside0.mk (posOf_eq e1)
            have HGA := Aside0.mk (posOf_neg e0)
            clear e1 e0
            go_loopg [101] (f.f3.length) (fun kq v wb => ∃ j : Nat, Aside0 (j + kq = f.f3.length) ∧ v = .int .i64 (j : Int) ∧ Aside0 (Below w.heap.size w wb) ∧ Aside0 (wb.heap[w.heap.size]? = some (.cells #[.slice AG GS.length cG, .slice (some ad) F.length cF] 25 (0, 0))) ∧ Aside0 (∀ b ∈ f.f3.take j, ∀ x ∈ b.f0, MayX F GS x))
            case atStart => exact ⟨0, ⟨by omega⟩, rfl, HB8, HM8, ⟨fun i hi => by simp at hi⟩⟩
            case round =>
              obtain ⟨j, HJ, rfl, HBB, HMB, HVB⟩ := hrel
              by_cases hlj : j < f.f3.length
              · cases gk with
                | zero => exact absurd HJ.out (by omega)
                | succ q4 =>
                  obtain ⟨adb, A0, c0, hA, z0, z1, z2, z3, z4, hl0, hi0⟩ := at_T41 HI3.out (j : Int) (by omega) (by omega)
                  rw [Int.toNat_natCast] at z0 z1 z2 z3 z4
                  obtain ⟨b, hz⟩ : ∃ b, rd_T41 f.f3 (j : Int) = b := ⟨_, rfl⟩
                  rw [hz] at z0 z1 z2 z3 z4 hl0 hi0
                  have hge : f.f3.getD j z41 = b := by rw [← hz]; unfold rd_T41; rw [Int.toNat_natCast]
                  replace z0 := carry HBB.out z0
                  replace z1 := carry HBB.out z1
                  replace z2 := carry HBB.out z2
                  replace z3 := carry HBB.out z3
                  replace z4 := carry HBB.out z4
                  have HBE := Aside0.mk hge
                  have HL0 := Aside0.mk hl0
                  have HI0 := Aside0.mk hi0
                  have HMC := Aside0.mk (Kd.C_max hi0)
                  subst hA
                  clear hz hge hl0 hi0
                  go_wp2_with (first
    | ((with_reducible refine gate_dst (N := 10) rfl ?_)
       refine box_event rfl (N := 10) rfl (cs := #[.slice none 0 0, .int .i64 0, .int .i64 0, .int .i64 0, .int .i64 0]) (t := 41) ?hr ?_
       case hr => first | (go_simp; done) | (go_simp; rfl)
       intro gx hg w1x hbox hb; have hz0 : w1x.cell? ⟨gx, 0, none⟩ = some (.slice none 0 0) := (blk_cell hbox 0).trans rfl; have hf0 := blk_frozen hbox 0; have hz1 : w1x.cell? ⟨gx, 1, none⟩ = some (.int .i64 0) := (blk_cell hbox 1).trans rfl; have hf1 := blk_frozen hbox 1; have hz2 : w1x.cell? ⟨gx, 2, none⟩ = some (.int .i64 0) := (blk_cell hbox 2).trans rfl; have hf2 := blk_frozen hbox 2; have hz3 : w1x.cell? ⟨gx, 3, none⟩ = some (.int .i64 0) := (blk_cell hbox 3).trans rfl; have hf3 := blk_frozen hbox 3; have hz4 : w1x.cell? ⟨gx, 4, none⟩ = some (.int .i64 0) := (blk_cell hbox 4).trans rfl; have hf4 := blk_frozen hbox 4
       have HG := Aside0.mk (Nat.le_of_eq hg.symm)
       clear hg)
    | ((with_reducible refine gate_store (t := 41) (p := 10) rfl ?_)
       refine store_event (w1 := (((((w1x.setCell ⟨gx, 0, none⟩ (.slice A0 b.f0.length c0)).setCell ⟨gx, 1, none⟩ (.int .i64 b.f1)).setCell ⟨gx, 2, none⟩ (.int .i64 b.f2)).setCell ⟨gx, 3, none⟩ (.int .i64 b.f3)).setCell ⟨gx, 4, none⟩ (.int .i64 b.f4))) rfl (t := 41) (p := 10) rfl rfl ?hr ?_
       case hr => first | (go_simp; done) | (go_simp; rfl)
       intro wx hw
       have hcb := hw ▸ fill5 (g := gx) hbox
       have hbl := hw ▸ fillB5 (g := gx) hb HG.out
       have HBX := Aside0.mk (below_step HBB.out hbl)
       have hmx := blk_below (g := w.heap.size) HMB.out hbl
       have HMX := Aside0.mk hmx
       have HOX := Aside0.mk hcb
       have m0 := (blk_cell hmx 0).trans rfl
       have m1 := (blk_cell hmx 1).trans rfl
       have y0 := (blk_cell hcb 0).trans rfl
       have y1 := (blk_cell hcb 1).trans rfl
       have y2 := (blk_cell hcb 2).trans rfl
       have y3 := (blk_cell hcb 3).trans rfl
       have y4 := (blk_cell hcb 4).trans rfl
       clear hmx hcb hbl hw hbox hb hz0 hf0 hz1 hf1 hz2 hf2 hz3 hf3 hz4 hf4)
    | fail)
                  go_loopg [108] (b.f0.length) (fun kq v wi => ∃ i : Nat, Aside0 (i + kq = b.f0.length) ∧ v = .int .i64 (i : Int) ∧ Aside0 (Below w.heap.size w wi) ∧ Aside0 (wi.heap[w.heap.size]? = some (.cells #[.slice AG GS.length cG, .slice (some ad) F.length cF] 25 (0, 0))) ∧ Aside0 (∀ x ∈ b.f0.take i, MayX F GS x))
                  case atStart => exact ⟨0, ⟨by omega⟩, rfl, HBX, HMX, ⟨fun i hi => by simp at hi⟩⟩
                  case round =>
                    obtain ⟨i, HI, rfl, HBI, HMI, HVI⟩ := hrel
                    by_cases hli : i < b.f0.length
                    · cases gk with
                      | zero => exact absurd HI.out (by omega)
                      | succ q5 =>
                        obtain ⟨adx, A7, c7, hA, x0, x1, x2, x3, x4, x5, x6, x7, hl7, hi7⟩ := at_T44 HI0.out (i : Int) (by omega) (by omega)
                        rw [Int.toNat_natCast] at x0 x1 x2 x3 x4 x5 x6 x7
                        obtain ⟨x, hz⟩ : ∃ x, rd_T44 b.f0 (i : Int) = x := ⟨_, rfl⟩
                        rw [hz] at x0 x1 x2 x3 x4 x5 x6 x7 hl7 hi7
                        have hge : b.f0.getD i z44 = x := by rw [← hz]; unfold rd_T44; rw [Int.toNat_natCast]
                        replace x0 := carry HBI.out x0
                        replace x1 := carry HBI.out x1
                        replace x2 := carry HBI.out x2
                        replace x3 := carry HBI.out x3
                        replace x4 := carry HBI.out x4
                        replace x5 := carry HBI.out x5
                        replace x6 := carry HBI.out x6
                        replace x7 := carry HBI.out x7
                        have HXE := Aside0.mk hge
                        have HL7 := Aside0.mk hl7
                        subst hA
                        clear hz hge hl7 hi7
                        have hk : x.f0 = 5 ∨ x.f0 = 6 ∨ x.f0 = 7 ∨ (x.f0 ≠ 5 ∧ x.f0 ≠ 6 ∧ x.f0 ≠ 7) := by omega
                        rcases hk with hk | hk | hk | hk
                        · have HKD := Aside0.mk hk
                          have r5_ : (x.f0 == 5) = true := by rw [hk]; rfl
                          have r6_ : (x.f0 == 6) = false := by rw [beq_eq_false_iff_ne]; omega
                          have r7_ : (x.f0 == 7) = false := by rw [beq_eq_false_iff_ne]; omega
                          clear hk
                          go_wp2_with (first
    | ((with_reducible refine gate_dst (N := 12) rfl ?_)
       refine box_event rfl (N := 12) rfl (cs := #[.int .i64 0, .int .i64 0, .int .i64 0, .int .i64 0, .int .i64 0, .int .i32 0, .string (⟨#[]⟩ : ByteArray), .slice none 0 0]) (t := 44) ?hr ?_
       case hr => first | (go_simp; done) | (go_simp; rfl)
       intro gx hg w1x hbox hb; have hz0 : w1x.cell? ⟨gx, 0, none⟩ = some (.int .i64 0) := (blk_cell hbox 0).trans rfl; have hf0 := blk_frozen hbox 0; have hz1 : w1x.cell? ⟨gx, 1, none⟩ = some (.int .i64 0) := (blk_cell hbox 1).trans rfl; have hf1 := blk_frozen hbox 1; have hz2 : w1x.cell? ⟨gx, 2, none⟩ = some (.int .i64 0) := (blk_cell hbox 2).trans rfl; have hf2 := blk_frozen hbox 2; have hz3 : w1x.cell? ⟨gx, 3, none⟩ = some (.int .i64 0) := (blk_cell hbox 3).trans rfl; have hf3 := blk_frozen hbox 3; have hz4 : w1x.cell? ⟨gx, 4, none⟩ = some (.int .i64 0) := (blk_cell hbox 4).trans rfl; have hf4 := blk_frozen hbox 4; have hz5 : w1x.cell? ⟨gx, 5, none⟩ = some (.int .i32 0) := (blk_cell hbox 5).trans rfl; have hf5 := blk_frozen hbox 5; have hz6 : w1x.cell? ⟨gx, 6, none⟩ = some (.string (⟨#[]⟩ : ByteArray)) := (blk_cell hbox 6).trans rfl; have hf6 := blk_frozen hbox 6; have hz7 : w1x.cell? ⟨gx, 7, none⟩ = some (.slice none 0 0) := (blk_cell hbox 7).trans rfl; have hf7 := blk_frozen hbox 7
       have HG := Aside0.mk (Nat.le_of_eq hg.symm)
       clear hg)
    | ((with_reducible refine gate_store (t := 44) (p := 12) rfl ?_)
       refine store_event (w1 := ((((((((w1x.setCell ⟨gx, 0, none⟩ (.int .i64 x.f0)).setCell ⟨gx, 1, none⟩ (.int .i64 x.f1)).setCell ⟨gx, 2, none⟩ (.int .i64 x.f2)).setCell ⟨gx, 3, none⟩ (.int .i64 x.f3)).setCell ⟨gx, 4, none⟩ (.int .i64 x.f4)).setCell ⟨gx, 5, none⟩ (.int .i32 x.f5)).setCell ⟨gx, 6, none⟩ (.string x.f6)).setCell ⟨gx, 7, none⟩ (.slice A7 x.f7.length c7))) rfl (t := 44) (p := 12) rfl rfl ?hr ?_
       case hr => first | (go_simp; done) | (go_simp; rfl)
       intro wx hw
       have hcb := hw ▸ fill8 (g := gx) hbox
       have hbl := hw ▸ fillB8 (g := gx) hb HG.out
       have HBX := Aside0.mk (below_step HBI.out hbl)
       have hmx := blk_below (g := w.heap.size) HMI.out hbl
       have HMX := Aside0.mk hmx
       have HOX := Aside0.mk hcb
       have m0 := (blk_cell hmx 0).trans rfl
       have m1 := (blk_cell hmx 1).trans rfl
       have y0 := (blk_cell hcb 0).trans rfl
       have y1 := (blk_cell hcb 1).trans rfl
       have y2 := (blk_cell hcb 2).trans rfl
       have y3 := (blk_cell hcb 3).trans rfl
       have y4 := (blk_cell hcb 4).trans rfl
       have y5 := (blk_cell hcb 5).trans rfl
       have y6 := (blk_cell hcb 6).trans rfl
       have y7 := (blk_cell hcb 7).trans rfl
       clear hmx hcb hbl hw hbox hb hz0 hf0 hz1 hf1 hz2 hf2 hz3 hf3 hz4 hf4 hz5 hf5 hz6 hf6 hz7 hf7)
    | (go_at_call 20; (with_reducible refine (glat_calls AG cG GS (some ad) cF F x.f6 _ (Kd.C_below HGR.out HBX.out) HCG.out (Kd.C_below HF.out HBX.out) HCF.out HGL.out).mono ?_)
       intro e w9 hc7
       rcases Nat.lt_or_ge (glAt GS x.f6) GS.length with hm | hm
       all_goals first
         | (have hc8 : e = .returned (.int .i64 ((glAt GS x.f6 : Nat) : Int)) ∧ Below wx.heap.size wx w9 := by rw [← posOf_lt hm]; exact hc7
            obtain ⟨rfl, hB_⟩ := hc8
            clear hc7
            have HB9 := Aside0.mk (below_step HBX.out hB_)
            have hm_ := blk_below HMX.out hB_
            have HM9 := Aside0.mk hm_
            have m0 := (blk_cell hm_ 0).trans rfl
            have m1 := (blk_cell hm_ 1).trans rfl
            obtain ⟨adg, hA, q0, q1⟩ := at_T57 HGR.out (glAt GS x.f6 : Int) (by omega) (by omega)
            rw [Int.toNat_natCast, rd57] at q1
            replace q1 := carry HB9.out q1
            have ho_ := blk_below HOX.out hB_
            have y0 := (blk_cell ho_ 0).trans rfl
            have y3 := (blk_cell ho_ 3).trans rfl
            have HMN9 := Aside0.mk hm
            subst hA
            clear q0 ho_
            clear hm_ hB_)
         | (have hc8 : e = .returned (.int .i64 (-1)) ∧ Below wx.heap.size wx w9 := by rw [← posOf_ge hm]; exact hc7
            obtain ⟨rfl, hB_⟩ := hc8
            have HB9 := Aside0.mk (below_step HBX.out hB_)
            clear hc7 hB_))
    | fail)
                          all_goals (repeat (go_quiet (fail); try go_wp2))
                          all_goals first
                            | (go_ret; first | exact Says.no (pw_below_drewN HB9.out _) | exact Says.no HB9.out)
                            | skip
                          rename_i hq
                          have HMX9 : Aside0 (MayX F GS x) := ⟨⟨fun _ => ⟨hm, by rw [show GS.getD (glAt GS x.f6) z57 = GS[glAt GS x.f6] from by rw [List.getD_eq_getElem?_getD, List.getElem?_eq_getElem hm]; rfl]; simpa using hq.2⟩, fun h => absurd (HKD.out.symm.trans h) (by decide)⟩⟩
                          clear hq
                          go_roundg q5
                          case measure => omega
                          case rel => exact ⟨i + 1, ⟨by have := HI.out; omega⟩, by first | exact nxt hli HMC.out | rfl, ⟨pw_below_drewN HB9.out _⟩, ⟨blk_drewN HM9.out _⟩, ⟨take_more hli HXE.out HVI.out HMX9.out⟩⟩
                        · have HKD := Aside0.mk hk
                          have r5_ : (x.f0 == 5) = false := by rw [beq_eq_false_iff_ne]; omega
                          have r6_ : (x.f0 == 6) = true := by rw [hk]; rfl
                          have r7_ : (x.f0 == 7) = false := by rw [beq_eq_false_iff_ne]; omega
                          clear hk
                          go_wp2_with (first
    | ((with_reducible refine gate_dst (N := 12) rfl ?_)
       refine box_event rfl (N := 12) rfl (cs := #[.int .i64 0, .int .i64 0, .int .i64 0, .int .i64 0, .int .i64 0, .int .i32 0, .string (⟨#[]⟩ : ByteArray), .slice none 0 0]) (t := 44) ?hr ?_
       case hr => first | (go_simp; done) | (go_simp; rfl)
       intro gx hg w1x hbox hb; have hz0 : w1x.cell? ⟨gx, 0, none⟩ = some (.int .i64 0) := (blk_cell hbox 0).trans rfl; have hf0 := blk_frozen hbox 0; have hz1 : w1x.cell? ⟨gx, 1, none⟩ = some (.int .i64 0) := (blk_cell hbox 1).trans rfl; have hf1 := blk_frozen hbox 1; have hz2 : w1x.cell? ⟨gx, 2, none⟩ = some (.int .i64 0) := (blk_cell hbox 2).trans rfl; have hf2 := blk_frozen hbox 2; have hz3 : w1x.cell? ⟨gx, 3, none⟩ = some (.int .i64 0) := (blk_cell hbox 3).trans rfl; have hf3 := blk_frozen hbox 3; have hz4 : w1x.cell? ⟨gx, 4, none⟩ = some (.int .i64 0) := (blk_cell hbox 4).trans rfl; have hf4 := blk_frozen hbox 4; have hz5 : w1x.cell? ⟨gx, 5, none⟩ = some (.int .i32 0) := (blk_cell hbox 5).trans rfl; have hf5 := blk_frozen hbox 5; have hz6 : w1x.cell? ⟨gx, 6, none⟩ = some (.string (⟨#[]⟩ : ByteArray)) := (blk_cell hbox 6).trans rfl; have hf6 := blk_frozen hbox 6; have hz7 : w1x.cell? ⟨gx, 7, none⟩ = some (.slice none 0 0) := (blk_cell hbox 7).trans rfl; have hf7 := blk_frozen hbox 7
       have HG := Aside0.mk (Nat.le_of_eq hg.symm)
       clear hg)
    | ((with_reducible refine gate_store (t := 44) (p := 12) rfl ?_)
       refine store_event (w1 := ((((((((w1x.setCell ⟨gx, 0, none⟩ (.int .i64 x.f0)).setCell ⟨gx, 1, none⟩ (.int .i64 x.f1)).setCell ⟨gx, 2, none⟩ (.int .i64 x.f2)).setCell ⟨gx, 3, none⟩ (.int .i64 x.f3)).setCell ⟨gx, 4, none⟩ (.int .i64 x.f4)).setCell ⟨gx, 5, none⟩ (.int .i32 x.f5)).setCell ⟨gx, 6, none⟩ (.string x.f6)).setCell ⟨gx, 7, none⟩ (.slice A7 x.f7.length c7))) rfl (t := 44) (p := 12) rfl rfl ?hr ?_
       case hr => first | (go_simp; done) | (go_simp; rfl)
       intro wx hw
       have hcb := hw ▸ fill8 (g := gx) hbox
       have hbl := hw ▸ fillB8 (g := gx) hb HG.out
       have HBX := Aside0.mk (below_step HBI.out hbl)
       have hmx := blk_below (g := w.heap.size) HMI.out hbl
       have HMX := Aside0.mk hmx
       have HOX := Aside0.mk hcb
       have m0 := (blk_cell hmx 0).trans rfl
       have m1 := (blk_cell hmx 1).trans rfl
       have y0 := (blk_cell hcb 0).trans rfl
       have y1 := (blk_cell hcb 1).trans rfl
       have y2 := (blk_cell hcb 2).trans rfl
       have y3 := (blk_cell hcb 3).trans rfl
       have y4 := (blk_cell hcb 4).trans rfl
       have y5 := (blk_cell hcb 5).trans rfl
       have y6 := (blk_cell hcb 6).trans rfl
       have y7 := (blk_cell hcb 7).trans rfl
       clear hmx hcb hbl hw hbox hb hz0 hf0 hz1 hf1 hz2 hf2 hz3 hf3 hz4 hf4 hz5 hf5 hz6 hf6 hz7 hf7)
    | (go_at_call 20; (with_reducible refine (glat_calls AG cG GS (some ad) cF F x.f6 _ (Kd.C_below HGR.out HBX.out) HCG.out (Kd.C_below HF.out HBX.out) HCF.out HGL.out).mono ?_)
       intro e w9 hc7
       rcases Nat.lt_or_ge (glAt GS x.f6) GS.length with hm | hm
       all_goals first
         | (have hc8 : e = .returned (.int .i64 ((glAt GS x.f6 : Nat) : Int)) ∧ Below wx.heap.size wx w9 := by rw [← posOf_lt hm]; exact hc7
            obtain ⟨rfl, hB_⟩ := hc8
            clear hc7
            have HB9 := Aside0.mk (below_step HBX.out hB_)
            have hm_ := blk_below HMX.out hB_
            have HM9 := Aside0.mk hm_
            have m0 := (blk_cell hm_ 0).trans rfl
            have m1 := (blk_cell hm_ 1).trans rfl
            obtain ⟨adg, hA, q0, q1⟩ := at_T57 HGR.out (glAt GS x.f6 : Int) (by omega) (by omega)
            rw [Int.toNat_natCast, rd57] at q1
            replace q1 := carry HB9.out q1
            have ho_ := blk_below HOX.out hB_
            have y0 := (blk_cell ho_ 0).trans rfl
            have y3 := (blk_cell ho_ 3).trans rfl
            have HMN9 := Aside0.mk hm
            subst hA
            clear q0 ho_
            clear hm_ hB_)
         | (have hc8 : e = .returned (.int .i64 (-1)) ∧ Below wx.heap.size wx w9 := by rw [← posOf_ge hm]; exact hc7
            obtain ⟨rfl, hB_⟩ := hc8
            have HB9 := Aside0.mk (below_step HBX.out hB_)
            clear hc7 hB_))
    | fail)
                          all_goals (repeat (go_quiet (fail); try go_wp2))
                          all_goals first
                            | (go_ret; first | exact Says.no (pw_below_drewN HB9.out _) | exact Says.no HB9.out)
                            | skip
                          rename_i hq
                          have HMX9 : Aside0 (MayX F GS x) := ⟨⟨fun _ => ⟨hm, by rw [show GS.getD (glAt GS x.f6) z57 = GS[glAt GS x.f6] from by rw [List.getD_eq_getElem?_getD, List.getElem?_eq_getElem hm]; rfl]; simpa using hq.2⟩, fun h => absurd (HKD.out.symm.trans h) (by decide)⟩⟩
                          clear hq
                          go_roundg q5
                          case measure => omega
                          case rel => exact ⟨i + 1, ⟨by have := HI.out; omega⟩, by first | exact nxt hli HMC.out | rfl, ⟨pw_below_drewN HB9.out _⟩, ⟨blk_drewN HM9.out _⟩, ⟨take_more hli HXE.out HVI.out HMX9.out⟩⟩
                        · have HKD := Aside0.mk hk
                          have r5_ : (x.f0 == 5) = false := by rw [beq_eq_false_iff_ne]; omega
                          have r6_ : (x.f0 == 6) = false := by rw [beq_eq_false_iff_ne]; omega
                          have r7_ : (x.f0 == 7) = true := by rw [hk]; rfl
                          clear hk
                          go_wp2_with (first
    | ((with_reducible refine gate_dst (N := 12) rfl ?_)
       refine box_event rfl (N := 12) rfl (cs := #[.int .i64 0, .int .i64 0, .int .i64 0, .int .i64 0, .int .i64 0, .int .i32 0, .string (⟨#[]⟩ : ByteArray), .slice none 0 0]) (t := 44) ?hr ?_
       case hr => first | (go_simp; done) | (go_simp; rfl)
       intro gx hg w1x hbox hb; have hz0 : w1x.cell? ⟨gx, 0, none⟩ = some (.int .i64 0) := (blk_cell hbox 0).trans rfl; have hf0 := blk_frozen hbox 0; have hz1 : w1x.cell? ⟨gx, 1, none⟩ = some (.int .i64 0) := (blk_cell hbox 1).trans rfl; have hf1 := blk_frozen hbox 1; have hz2 : w1x.cell? ⟨gx, 2, none⟩ = some (.int .i64 0) := (blk_cell hbox 2).trans rfl; have hf2 := blk_frozen hbox 2; have hz3 : w1x.cell? ⟨gx, 3, none⟩ = some (.int .i64 0) := (blk_cell hbox 3).trans rfl; have hf3 := blk_frozen hbox 3; have hz4 : w1x.cell? ⟨gx, 4, none⟩ = some (.int .i64 0) := (blk_cell hbox 4).trans rfl; have hf4 := blk_frozen hbox 4; have hz5 : w1x.cell? ⟨gx, 5, none⟩ = some (.int .i32 0) := (blk_cell hbox 5).trans rfl; have hf5 := blk_frozen hbox 5; have hz6 : w1x.cell? ⟨gx, 6, none⟩ = some (.string (⟨#[]⟩ : ByteArray)) := (blk_cell hbox 6).trans rfl; have hf6 := blk_frozen hbox 6; have hz7 : w1x.cell? ⟨gx, 7, none⟩ = some (.slice none 0 0) := (blk_cell hbox 7).trans rfl; have hf7 := blk_frozen hbox 7
       have HG := Aside0.mk (Nat.le_of_eq hg.symm)
       clear hg)
    | ((with_reducible refine gate_store (t := 44) (p := 12) rfl ?_)
       refine store_event (w1 := ((((((((w1x.setCell ⟨gx, 0, none⟩ (.int .i64 x.f0)).setCell ⟨gx, 1, none⟩ (.int .i64 x.f1)).setCell ⟨gx, 2, none⟩ (.int .i64 x.f2)).setCell ⟨gx, 3, none⟩ (.int .i64 x.f3)).setCell ⟨gx, 4, none⟩ (.int .i64 x.f4)).setCell ⟨gx, 5, none⟩ (.int .i32 x.f5)).setCell ⟨gx, 6, none⟩ (.string x.f6)).setCell ⟨gx, 7, none⟩ (.slice A7 x.f7.length c7))) rfl (t := 44) (p := 12) rfl rfl ?hr ?_
       case hr => first | (go_simp; done) | (go_simp; rfl)
       intro wx hw
       have hcb := hw ▸ fill8 (g := gx) hbox
       have hbl := hw ▸ fillB8 (g := gx) hb HG.out
       have HBX := Aside0.mk (below_step HBI.out hbl)
       have hmx := blk_below (g := w.heap.size) HMI.out hbl
       have HMX := Aside0.mk hmx
       have HOX := Aside0.mk hcb
       have m0 := (blk_cell hmx 0).trans rfl
       have m1 := (blk_cell hmx 1).trans rfl
       have y0 := (blk_cell hcb 0).trans rfl
       have y1 := (blk_cell hcb 1).trans rfl
       have y2 := (blk_cell hcb 2).trans rfl
       have y3 := (blk_cell hcb 3).trans rfl
       have y4 := (blk_cell hcb 4).trans rfl
       have y5 := (blk_cell hcb 5).trans rfl
       have y6 := (blk_cell hcb 6).trans rfl
       have y7 := (blk_cell hcb 7).trans rfl
       clear hmx hcb hbl hw hbox hb hz0 hf0 hz1 hf1 hz2 hf2 hz3 hf3 hz4 hf4 hz5 hf5 hz6 hf6 hz7 hf7)
    | (go_at_call 21; (with_reducible refine (fnat_calls AG cG GS (some ad) cF F x.f6 _ (Kd.C_below HGR.out HBX.out) HCG.out (Kd.C_below HF.out HBX.out) HCF.out HFL.out).mono ?_)
       intro e w9 hc7
       rcases Nat.lt_or_ge (fnAt F x.f6) F.length with hm | hm
       all_goals first
         | (have hc8 : e = .returned (.int .i64 ((fnAt F x.f6 : Nat) : Int)) ∧ Below wx.heap.size wx w9 := by rw [← posOf_lt hm]; exact hc7
            obtain ⟨rfl, hB_⟩ := hc8
            clear hc7
            have HB9 := Aside0.mk (below_step HBX.out hB_)
            have hm_ := blk_below HMX.out hB_
            have HM9 := Aside0.mk hm_
            have m0 := (blk_cell hm_ 0).trans rfl
            have m1 := (blk_cell hm_ 1).trans rfl
            obtain ⟨ad3, A9, c9, hA, q0, q1, q2, q3_, ql, qi⟩ := at_T47 HF.out (fnAt F x.f6 : Int) (by omega) (by omega)
            rw [Int.toNat_natCast, rd47] at q1
            replace q1 := carry HB9.out q1
            have ho_ := blk_below HOX.out hB_
            have y7 := (blk_cell ho_ 7).trans rfl
            have HMN9 := Aside0.mk hm
            obtain rfl : ad = ad3 := by injection hA
            clear hA q0 q2 q3_ ql qi ho_
            clear hm_ hB_)
         | (have hc8 : e = .returned (.int .i64 (-1)) ∧ Below wx.heap.size wx w9 := by rw [← posOf_ge hm]; exact hc7
            obtain ⟨rfl, hB_⟩ := hc8
            have HB9 := Aside0.mk (below_step HBX.out hB_)
            clear hc7 hB_))
    | fail)
                          all_goals (repeat (go_quiet (fail); try go_wp2))
                          all_goals first
                            | (go_ret; first | exact Says.no (pw_below_drewN HB9.out _) | exact Says.no HB9.out)
                            | skip
                          rename_i hq
                          have HMX9 : Aside0 (MayX F GS x) := ⟨⟨fun h => h.elim (fun h => absurd (HKD.out.symm.trans h) (by decide)) (fun h => absurd (HKD.out.symm.trans h) (by decide)), fun _ => ⟨hm, by simpa using hq.2⟩⟩⟩
                          clear hq
                          go_roundg q5
                          case measure => omega
                          case rel => exact ⟨i + 1, ⟨by have := HI.out; omega⟩, by first | exact nxt hli HMC.out | rfl, ⟨pw_below_drewN HB9.out _⟩, ⟨blk_drewN HM9.out _⟩, ⟨take_more hli HXE.out HVI.out HMX9.out⟩⟩
                        · have HKD := Aside0.mk hk
                          have r5_ : (x.f0 == 5) = false := by rw [beq_eq_false_iff_ne]; omega
                          have r6_ : (x.f0 == 6) = false := by rw [beq_eq_false_iff_ne]; omega
                          have r7_ : (x.f0 == 7) = false := by rw [beq_eq_false_iff_ne]; omega
                          clear hk
                          go_wp2_with (first
    | ((with_reducible refine gate_dst (N := 12) rfl ?_)
       refine box_event rfl (N := 12) rfl (cs := #[.int .i64 0, .int .i64 0, .int .i64 0, .int .i64 0, .int .i64 0, .int .i32 0, .string (⟨#[]⟩ : ByteArray), .slice none 0 0]) (t := 44) ?hr ?_
       case hr => first | (go_simp; done) | (go_simp; rfl)
       intro gx hg w1x hbox hb; have hz0 : w1x.cell? ⟨gx, 0, none⟩ = some (.int .i64 0) := (blk_cell hbox 0).trans rfl; have hf0 := blk_frozen hbox 0; have hz1 : w1x.cell? ⟨gx, 1, none⟩ = some (.int .i64 0) := (blk_cell hbox 1).trans rfl; have hf1 := blk_frozen hbox 1; have hz2 : w1x.cell? ⟨gx, 2, none⟩ = some (.int .i64 0) := (blk_cell hbox 2).trans rfl; have hf2 := blk_frozen hbox 2; have hz3 : w1x.cell? ⟨gx, 3, none⟩ = some (.int .i64 0) := (blk_cell hbox 3).trans rfl; have hf3 := blk_frozen hbox 3; have hz4 : w1x.cell? ⟨gx, 4, none⟩ = some (.int .i64 0) := (blk_cell hbox 4).trans rfl; have hf4 := blk_frozen hbox 4; have hz5 : w1x.cell? ⟨gx, 5, none⟩ = some (.int .i32 0) := (blk_cell hbox 5).trans rfl; have hf5 := blk_frozen hbox 5; have hz6 : w1x.cell? ⟨gx, 6, none⟩ = some (.string (⟨#[]⟩ : ByteArray)) := (blk_cell hbox 6).trans rfl; have hf6 := blk_frozen hbox 6; have hz7 : w1x.cell? ⟨gx, 7, none⟩ = some (.slice none 0 0) := (blk_cell hbox 7).trans rfl; have hf7 := blk_frozen hbox 7
       have HG := Aside0.mk (Nat.le_of_eq hg.symm)
       clear hg)
    | ((with_reducible refine gate_store (t := 44) (p := 12) rfl ?_)
       refine store_event (w1 := ((((((((w1x.setCell ⟨gx, 0, none⟩ (.int .i64 x.f0)).setCell ⟨gx, 1, none⟩ (.int .i64 x.f1)).setCell ⟨gx, 2, none⟩ (.int .i64 x.f2)).setCell ⟨gx, 3, none⟩ (.int .i64 x.f3)).setCell ⟨gx, 4, none⟩ (.int .i64 x.f4)).setCell ⟨gx, 5, none⟩ (.int .i32 x.f5)).setCell ⟨gx, 6, none⟩ (.string x.f6)).setCell ⟨gx, 7, none⟩ (.slice A7 x.f7.length c7))) rfl (t := 44) (p := 12) rfl rfl ?hr ?_
       case hr => first | (go_simp; done) | (go_simp; rfl)
       intro wx hw
       have hcb := hw ▸ fill8 (g := gx) hbox
       have hbl := hw ▸ fillB8 (g := gx) hb HG.out
       have HBX := Aside0.mk (below_step HBI.out hbl)
       have hmx := blk_below (g := w.heap.size) HMI.out hbl
       have HMX := Aside0.mk hmx
       have HOX := Aside0.mk hcb
       have m0 := (blk_cell hmx 0).trans rfl
       have m1 := (blk_cell hmx 1).trans rfl
       have y0 := (blk_cell hcb 0).trans rfl
       have y1 := (blk_cell hcb 1).trans rfl
       have y2 := (blk_cell hcb 2).trans rfl
       have y3 := (blk_cell hcb 3).trans rfl
       have y4 := (blk_cell hcb 4).trans rfl
       have y5 := (blk_cell hcb 5).trans rfl
       have y6 := (blk_cell hcb 6).trans rfl
       have y7 := (blk_cell hcb 7).trans rfl
       clear hmx hcb hbl hw hbox hb hz0 hf0 hz1 hf1 hz2 hf2 hz3 hf3 hz4 hf4 hz5 hf5 hz6 hf6 hz7 hf7)
    | fail)
                          all_goals first
                            | (go_ret; first | exact Says.no (pw_below_drewN HB9.out _) | exact Says.no HB9.out)
                            | skip
                          have HMX9 : Aside0 (MayX F GS x) := ⟨⟨fun h => h.elim (fun h => absurd h HKD.out.1) (fun h => absurd h HKD.out.2.1), fun h => absurd h HKD.out.2.2⟩⟩
                          go_roundg q5
                          case measure => omega
                          case rel => exact ⟨i + 1, ⟨by have := HI.out; omega⟩, by first | exact nxt hli HMC.out | rfl, HBX, HMX, ⟨take_more hli HXE.out HVI.out HMX9.out⟩⟩
                    · obtain rfl : i = b.f0.length := by have := HI.out; omega
                      have HINS : Aside0 (∀ x ∈ b.f0, MayX F GS x) := ⟨by have := HVI.out; rw [List.take_length] at this; exact this⟩
                      go_wp2
                      go_roundg q4
                      case measure => omega
                      case rel => exact ⟨j + 1, ⟨by have := HJ.out; omega⟩, by first | exact nxt hlj HM3.out | rfl, HBI, HMI, ⟨take_more hlj HBE.out HVB.out HINS.out⟩⟩
              · obtain rfl : j = f.f3.length := by have := HJ.out; omega
                have HBLS : Aside0 (∀ b ∈ f.f3, ∀ x ∈ b.f0, MayX F GS x) := ⟨by have := HVB.out; rw [List.take_length] at this; exact this⟩
                go_wp2
                go_roundg q3
                case measure => omega
                case rel =>
                  refine ⟨k + 1, ⟨by have := HKF.out; omega⟩, by first | exact nxt hlf (by have := HFL.out; omega) | rfl, HBB, HMB, ⟨?_⟩⟩
                  intro i hi
                  rcases Nat.lt_succ_iff_lt_or_eq.1 hi with h | rfl
                  · exact HVF.out i h
                  · exact ⟨by rw [HFE.out]; exact HYS.out trivial, by rw [HFE.out]; exact HFA.out, by rw [HFE.out]; exact HGA.out, by rw [HFE.out]; exact HBLS.out⟩
        · obtain rfl : k = F.length := by have := HKF.out; omega
          go_wp2
          go_ret
          exact ⟨true, rfl, fun _ => ⟨HFEW.out, HV.out, HMN.out, HM0.out, HVF.out⟩, HBF.out⟩
end Go.Proofs.Ytabkinlpbefjgaa.L

namespace Go.Proofs.Ytabkinlpbefjgaa.L
open Go.RowKit Go.Proofs.Ytabkinlpbefjgaa.X Go.Proofs.YtabkinlpbefjgaaW.PrintWords Go.Proofs.YtabkinlpbefjgaaW.PrintLast Go.Proofs.YtabkinlpbefjgaaW.PrintMore
attribute [local go_sem] max2_int min2_int max_two min_two max_three min_three max_four min_four   -- for this text's walks alone
set_option linter.unusedVariables false
set_option linter.unusedSimpArgs false
open Go.Proofs.Ytabkinlpbefjgaa.Pure
theorem rd41 (B : List S41) (i : Nat) : rd_T41 B (i : Int) = B.getD i z41 := by show B.getD ((i : Int)).toNat z41 = _; rw [Int.toNat_natCast]
theorem light_l3 (F : List S47) (i : Nat) (B : List S41) (j : Nat) (X : List S44) (hX : X.length ≤ 100) (x5 : Int) (P : Prop) (hn : Tot (fun k => brazierlaw11_Light.l2 k x5 F (F.length : Int) (i : Int) B (B.length : Int) (wrap64 ((j : Int) + 1))) P) :
    ∀ (d a : Nat), a + d = X.length → Tot (fun k => brazierlaw11_Light.l3 k x5 F (F.length : Int) (i : Int) B (B.length : Int) (j : Int) X (X.length : Int) (a : Int)) P
  | 0, a, h => by
    refine Tot.step ?_
    simp only [brazierlaw11_Light.l3]
    exact Tot.ite (fun h1 => absurd h1 (by omega)) (fun _ => hn)
  | d + 1, a, h => by
    refine Tot.step ?_
    simp only [brazierlaw11_Light.l3]
    refine Tot.ite (fun h1 => Tot.ite (fun h2 => Tot.ite (fun h3 => ?_) (fun h3 => absurd h1 h3)) (fun h2 => absurd h2 (by omega))) (fun h1 => absurd h1 (by omega))
    rw [wr1 a (by omega)]
    exact Tot.ite (fun _ => Tot.no _) (fun _ => Tot.ite (fun _ => Tot.no _) (fun _ => light_l3 F i B j X hX x5 P hn d (a + 1) (by omega)))
theorem light_l2 (F : List S47) (i : Nat) (B : List S41) (hB : B.length ≤ 80) (Q : Prop) (hn : ∀ x5, Tot (fun k => brazierlaw11_Light.l1 k x5 F (F.length : Int) (wrap64 ((i : Int) + 1))) Q) :
    ∀ (d j : Nat), j + d = B.length → ∀ x5, Tot (fun k => brazierlaw11_Light.l2 k x5 F (F.length : Int) (i : Int) B (B.length : Int) (j : Int)) (Q ∧ ∀ a, j ≤ a → a < B.length → (B.getD a z41).f0.length ≤ 100)
  | 0, j, h, x5 => by
    refine Tot.step ?_
    simp only [brazierlaw11_Light.l2]
    exact Tot.ite (fun h1 => absurd h1 (by omega)) (fun _ => (hn x5).imp (fun q => ⟨q, fun a h1 h2 => absurd h2 (by omega)⟩))
  | d + 1, j, h, x5 => by
    refine Tot.step ?_
    simp only [brazierlaw11_Light.l2]
    refine Tot.ite (fun h1 => Tot.ite (fun h2 => Tot.ite (fun h3 => ?_) (fun h3 => absurd h1 h3)) (fun h2 => absurd h2 (by omega))) (fun h1 => absurd h1 (by omega))
    rw [rd41]
    refine Tot.ite (fun _ => ?_) (fun hl => ?_)
    · refine Tot.step ?_
      simp only [brazierlaw11_Light.j5]
      exact Tot.ite (fun _ => Tot.no _) (fun h => absurd trivial h)
    · refine Tot.step ?_
      simp only [brazierlaw11_Light.j5]
      refine Tot.ite (fun _ => Tot.no _) (fun _ => ?_)
      have h100 : (B.getD j z41).f0.length ≤ 100 := by omega
      refine (light_l3 F i B j (B.getD j z41).f0 h100 _ (Q ∧ ∀ a, j ≤ a → a < B.length → (B.getD a z41).f0.length ≤ 100) ?_ _ 0 (Nat.zero_add _))
      rw [wr1 j (by omega)]
      refine (light_l2 F i B hB Q hn d (j + 1) (by omega) _).imp (fun q => ⟨q.1, fun a h1 h2 => ?_⟩)
      rcases Nat.lt_or_ge j a with h4 | h4
      · exact q.2 a h4 h2
      · obtain rfl : a = j := by omega
        exact h100
def LF (f : S47) : Prop := f.f3.length ≤ 80 ∧ ∀ a, a < f.f3.length → (f.f3.getD a z41).f0.length ≤ 100
theorem light_l1 (F : List S47) (hF : F.length ≤ 8) : ∀ (d i : Nat), i + d = F.length → ∀ x5, Tot (fun k => brazierlaw11_Light.l1 k x5 F (F.length : Int) (i : Int)) (∀ a, i ≤ a → a < F.length → LF (fnOf F a))
  | 0, i, h, x5 => by
    refine Tot.step ?_
    simp only [brazierlaw11_Light.l1]
    exact Tot.ite (fun h1 => absurd h1 (by omega)) (fun _ => Tot.yes (fun a h1 h2 => absurd h2 (by omega)))
  | d + 1, i, h, x5 => by
    refine Tot.step ?_
    simp only [brazierlaw11_Light.l1]
    refine Tot.ite (fun h1 => Tot.ite (fun h2 => Tot.ite (fun h3 => ?_) (fun h3 => absurd h1 h3)) (fun h2 => absurd h2 (by omega))) (fun h1 => absurd h1 (by omega))
    rw [rd47]
    refine Tot.ite (fun _ => ?_) (fun _ => ?_)
    · refine Tot.step ?_
      simp only [brazierlaw11_Light.j3]
      exact Tot.ite (fun _ => Tot.no _) (fun h => absurd trivial h)
    · refine Tot.step ?_
      simp only [brazierlaw11_Light.j3]
      refine Tot.ite (fun _ => Tot.no _) (fun h8 => ?_)
      have h80 : (fnOf F i).f3.length ≤ 80 := by
        have := of_decide_eq_false (Bool.eq_false_iff.2 h8)
        omega
      refine (light_l2 F i (fnOf F i).f3 h80 (∀ a, i + 1 ≤ a → a < F.length → LF (fnOf F a)) (fun y => ?_) _ 0 (Nat.zero_add _) x5).imp (fun q => ?_)
      · rw [wr1 i (by omega)]
        exact light_l1 F hF d (i + 1) (by omega) y
      · intro a h1 h2
        rcases Nat.lt_or_ge i a with h4 | h4
        · exact q.1 a h4 h2
        · obtain rfl : a = i := by omega
          exact ⟨h80, fun b hb => q.2 b (Nat.zero_le _) hb⟩
theorem light_l0 (GS : List S57) (F : List S47) (hG : GS.length ≤ 70) (hF : F.length ≤ 8) : ∀ (d i : Nat), i + d = GS.length → Tot (fun k => brazierlaw11_Light.l0 k GS (GS.length : Int) (i : Int) GS F) (∀ a, a < F.length → LF (fnOf F a))
  | 0, i, h => by
    refine Tot.step ?_
    simp only [brazierlaw11_Light.l0]
    exact Tot.ite (fun h1 => absurd h1 (by omega)) (fun _ => (light_l1 F hF _ 0 (Nat.zero_add _) 0).imp (fun q a ha => q a (Nat.zero_le _) ha))
  | d + 1, i, h => by
    refine Tot.step ?_
    simp only [brazierlaw11_Light.l0]
    refine Tot.ite (fun h1 => Tot.ite (fun h2 => Tot.ite (fun h3 => Tot.ite (fun _ => Tot.no _) (fun _ => ?_)) (fun h3 => absurd h1 h3)) (fun h2 => absurd h2 (by omega))) (fun h1 => absurd h1 (by omega))
    rw [wr1 i (by omega)]
    exact light_l0 GS F hG hF d (i + 1) (by omega)
structure LightM (GS : List S57) (F : List S47) : Prop where
  fns : F.length ≤ 8
  gl : GS.length ≤ 70
  fn : ∀ a, a < F.length → LF (fnOf F a)
theorem light_j (GS : List S57) (F : List S47) (b : Bool) (h : b = false → F.length ≤ 8 ∧ GS.length ≤ 70) : Tot (fun k => brazierlaw11_Light.j0 k b GS F) (LightM GS F) := by
  refine Tot.step ?_
  simp only [brazierlaw11_Light.j0]
  refine Tot.ite (fun _ => Tot.no _) (fun hb => ?_)
  obtain ⟨h1, h2⟩ := h (by simpa using hb)
  exact (light_l0 GS F h2 h1 _ 0 (Nat.zero_add _)).imp (fun q => ⟨h1, h2, q⟩)
theorem light_tot (GS : List S57) (F : List S47) : Tot (fun k => brazierlaw11_Light.f k GS F) (LightM GS F) := by
  unfold brazierlaw11_Light.f
  refine Tot.ite (fun _ => light_j GS F true (by simp)) (fun h => light_j GS F _ (fun hb => ?_))
  have := of_decide_eq_false hb
  exact ⟨by omega, by omega⟩
theorem ok_mid {GS : List S57} {F : List S47} (h : MayM F GS) (hL : LightM GS F) (hN : ∀ f ∈ F, ∀ b ∈ f.f3, ∀ x ∈ b.f0, W32 x.f5) : OkMid F GS ∧ (∀ f ∈ F, f.f0.size ≤ 64) ∧ (∀ g ∈ GS, g.f0.size ≤ 64) := by
  have at47 : ∀ f ∈ F, ∃ k, k < F.length ∧ fnOf F k = f := fun f hf => by
    obtain ⟨k, hk, e⟩ := List.mem_iff_getElem.1 hf
    exact ⟨k, hk, by unfold fnOf; rw [List.getD_eq_getElem?_getD, List.getElem?_eq_getElem hk, ← e]; rfl⟩
  have at57 : ∀ g ∈ GS, ∃ k, k < GS.length ∧ GS.getD k z57 = g := fun f hf => by
    obtain ⟨k, hk, e⟩ := List.mem_iff_getElem.1 hf
    exact ⟨k, hk, by rw [List.getD_eq_getElem?_getD, List.getElem?_eq_getElem hk, ← e]; rfl⟩
  refine ⟨⟨fun f hf => ?_, fun k hk => (h.fns k hk).first, fun k hk => (h.gl k hk).first, fun g hg => ?_, h.main, ?_, by have := hL.fns; omega, by have := hL.gl; omega⟩, fun f hf => ?_, fun g hg => ?_⟩
  · obtain ⟨k, hk, rfl⟩ := at47 f hf
    have hm := (h.fns k hk).fn
    have hl := hL.fn k hk
    refine ⟨fun b hb => ?_, hm.some_, by have := hl.1; omega, ⟨hm.params.1, hm.params.2.2⟩, hm.regs⟩
    have hB := hm.blks b hb
    refine ⟨fun x hx => ?_, hB.kind, hB.to1, hB.to2, hB.a, ?_⟩
    · have hX := hB.ins x hx
      have hY := (h.fns k hk).ins b hb x hx
      refine ⟨hX.kind, fun h6 h7 h9 => ?_, fun h7 => ?_, hX.a, fun hm_ => ⟨(hX.mem hm_).symm, (hY.mem hm_).1⟩, hX.b, hN _ hf b hb x hx, fun h7 => ⟨hX.args.1, hX.args.2, hY.call h7⟩⟩
      · exact (hX.dst h6 h9).elim id (fun h => absurd h.1 h7)
      · exact (hX.dst (by omega) (by omega)).elim .inr (fun h => .inl h.2)
    · obtain ⟨a, ha, e⟩ := List.mem_iff_getElem.1 hb
      have := hl.2 a ha
      rw [List.getD_eq_getElem?_getD, List.getElem?_eq_getElem ha] at this
      have e2 : (some (fnOf F k).f3[a]).getD z41 = b := e
      rw [e2] at this
      omega
  · obtain ⟨k, hk, rfl⟩ := at57 g hg
    exact (h.gl k hk).size
  · have h1 := h.main0
    have h2 := (h.fns _ h.main).fn.params.1
    omega
  · obtain ⟨k, hk, rfl⟩ := at47 f hf
    exact (h.fns k hk).fn.name
  · obtain ⟨k, hk, rfl⟩ := at57 g hg
    exact (h.gl k hk).name
theorem light_calls (GS : List S57) (F : List S47) (AG : Option Addr) (cG : Nat) (AF : Option Addr) (cF : Nat) (w : World) (hG : Kd.C k57 w AG GS.length GS) (hcG : GS.length ≤ cG) (hF : Kd.C k47 w AF F.length F) (hcF : F.length ≤ cF) :
    Calls Try.prog 16 #[.agg #[.slice AG GS.length cG, .slice AF F.length cF]] w (Says (LightM GS F) w) := by
  obtain ⟨r, hr, hp⟩ := light_tot GS F
  obtain ⟨k, hk⟩ := hr.rounds
  exact (brazierlaw11_Light.calls k AG cG GS AF cF F r w hG hcG hF hcF hk).mono fun e w' h => ⟨r, h.1, hp, h.2⟩
set_option maxHeartbeats 1000000 in
theorem fine_calls (GS : List S57) (F : List S47) (AG : Option Addr) (cG : Nat) (AF : Option Addr) (cF : Nat) (w : World) (hG : Kd.C k57 w AG GS.length GS) (hcG : GS.length ≤ cG) (hF : Kd.C k47 w AF F.length F) (hcF : F.length ≤ cF) :
    Calls Try.prog 7 #[.agg #[.slice AG GS.length cG, .slice AF F.length cF]] w (Says (LightM GS F ∧ MayM F GS) w) := by
  have HG := Aside0.mk hG
  have HF := Aside0.mk hF
  have HCG := Aside0.mk hcG
  have HCF := Aside0.mk hcF
  clear hG hF hcG hcF
  go_enter Try.func7, Try.ntmps7
  go_wp2_with (first
    | (go_at_call 16; (with_reducible refine (light_calls GS F AG cG AF cF _ (Kd.C_alloc HG.out _) HCG.out (Kd.C_alloc HF.out _) HCF.out).mono ?_)
       rintro e w5 ⟨b, rfl, hb, hB⟩
       have hm_ := blk_below (blk_new _ _) hB
       have m0 := (blk_cell hm_ 0).trans rfl
       have m1 := (blk_cell hm_ 1).trans rfl
       have HB5 := Aside0.mk ((Below.alloc (Below.refl w.heap.size w) (Nat.le_refl _) _).trans (Below.mono hB (Below.alloc (Below.refl w.heap.size w) (Nat.le_refl _) _).size))
       have HL5 := Aside0.mk hb
       clear hm_ hb hB
       cases b)
    | (go_at_call 15; (with_reducible refine (may_calls GS F AG cG AF cF _ (Kd.C_below HG.out HB5.out) HCG.out (Kd.C_below HF.out HB5.out) HCF.out (Nat.le_trans (HL5.out trivial).gl (by decide)) (Nat.le_trans (HL5.out trivial).fns (by decide))).mono ?_)
       rintro e w6 ⟨b, rfl, hb, hB⟩
       have HB6 := Aside0.mk (below_step HB5.out hB)
       have HM6 := Aside0.mk hb
       clear hb hB)
    | fail)
  all_goals first
    | (go_ret; exact Says.no HB5.out)
    | (go_ret; exact ⟨_, rfl, fun h => ⟨HL5.out trivial, HM6.out h⟩, HB6.out⟩)
end Go.Proofs.Ytabkinlpbefjgaa.L

namespace Go.Proofs.Ytabkinlpbefjgaa.L
open Go.RowKit Go.Proofs.Ytabkinlpbefjgaa.X Go.Proofs.YtabkinlpbefjgaaW.PrintWords Go.Proofs.YtabkinlpbefjgaaW.PrintLast Go.Proofs.YtabkinlpbefjgaaW.PrintMore
attribute [local go_sem] max2_int min2_int max_two min_two max_three min_three max_four min_four   -- for this text's walks alone
set_option linter.unusedVariables false
set_option linter.unusedSimpArgs false
open Go.Proofs.Ytabkinlpbefjgaa.Pure
set_option maxHeartbeats 1000000 in
theorem cut_calls (A : Option Addr) (c : Nat) (l : List Int) (fuel : Int) (w : World) (hl : (Kd.int .i32).C w A l.length l) (hc : l.length ≤ c) :
    Calls Try.prog 9 #[.slice A l.length c, .int .i64 fuel] w fun e w' => e = .returned (.tuple #[.slice A (l.take 30).length c, .int .i64 (max 0 (min fuel 400))]) ∧ w' = w := by
  have HL := Aside0.mk hl
  clear hl
  go_enter Try.func9, Try.ntmps9
  go_wp2
  all_goals
    rename_i h30 h0
    refine bodyPost_ret (v := .tuple #[.slice A (min 30 l.length) c, .int .i64 (max 0 (min fuel 400))]) ?_ rfl ⟨rfl, rfl⟩
    split at h0 <;> first
      | (rw [show min 30 l.length = 30 from by omega]; first | (rw [show max 0 (min fuel 400) = 400 from by omega]; simp [results, Try.results9, go_sem]; done) | (rw [show max 0 (min fuel 400) = 0 from by omega]; simp [results, Try.results9, go_sem]; done) | (rw [show max 0 (min fuel 400) = fuel from by omega]; simp [results, Try.results9, go_sem]; done) | (exfalso; omega))
      | (rw [show min 30 l.length = l.length from by omega]; first | (rw [show max 0 (min fuel 400) = 400 from by omega]; simp [results, Try.results9, go_sem]; done) | (rw [show max 0 (min fuel 400) = 0 from by omega]; simp [results, Try.results9, go_sem]; done) | (rw [show max 0 (min fuel 400) = fuel from by omega]; simp [results, Try.results9, go_sem]; done) | (exfalso; omega))
theorem same_l (l0 l1 : List Int) (h : l0.length = l1.length) (hl : l0.length ≤ 1000000) : ∀ (d i : Nat), i + d = l0.length → (∀ j, j < i → l0.getD j 0 = l1.getD j 0) → Ev (fun k => brazierref10_SameWords.l0 k l0 l1 (l0.length : Int) (i : Int)) (decide (l0 = l1))
  | 0, i, hi, hj => by
    refine Ev.step (f := fun _ => some true) (fun k => ?_) ?_
    · simp only [brazierref10_SameWords.l0]; rw [if_neg (by omega)]
    · have e : l0 = l1 := by
        apply List.ext_getElem h
        intro j h1 h2
        have := hj j (by omega)
        rw [List.getD_eq_getElem?_getD, List.getD_eq_getElem?_getD, List.getElem?_eq_getElem h1, List.getElem?_eq_getElem h2] at this
        exact this
      rw [decide_eq_true e]
      exact Ev.now _
  | d + 1, i, hi, hj => by
    have r0 : rd l0 (i : Int) = l0.getD i 0 := by unfold rd; rw [Int.toNat_natCast]
    have r1 : rd l1 (i : Int) = l1.getD i 0 := by unfold rd; rw [Int.toNat_natCast]
    by_cases hm : l0.getD i 0 = l1.getD i 0
    · refine Ev.step (f := fun k => brazierref10_SameWords.l0 k l0 l1 (l0.length : Int) ((i + 1 : Nat) : Int)) (fun k => ?_) (same_l l0 l1 h hl d (i + 1) (by omega) (fun j h1 => ?_))
      · simp only [brazierref10_SameWords.l0]
        rw [r0, r1, wr1 i (by omega)]
        repeat (first | rw [if_pos (by omega)] | rw [if_pos hm])
      · rcases Nat.lt_succ_iff_lt_or_eq.1 h1 with h2 | rfl
        · exact hj j h2
        · exact hm
    · refine Ev.step (f := fun _ => some false) (fun k => ?_) ?_
      · simp only [brazierref10_SameWords.l0]
        rw [r0, r1]
        repeat (first | rw [if_pos (by omega)] | rw [if_neg hm])
      · rw [decide_eq_false (fun e => hm (by rw [e]))]
        exact Ev.now _
theorem same_calls (e0 v0 : Int) (A0 : Option Addr) (c0 : Nat) (l0 : List Int) (s0 r0 e1 v1 : Int) (A1 : Option Addr) (c1 : Nat) (l1 : List Int) (s1 r1 : Int) (w : World) (h0 : (Kd.int .i32).C w A0 l0.length l0) (hc0 : l0.length ≤ c0) (h1 : (Kd.int .i32).C w A1 l1.length l1) (hc1 : l1.length ≤ c1) (hl : l0.length ≤ 1000000) :
    Calls Try.prog 12 #[.agg #[.int .i64 e0, .int .i32 v0, .slice A0 l0.length c0, .int .i64 s0, .int .i64 r0], .agg #[.int .i64 e1, .int .i32 v1, .slice A1 l1.length c1, .int .i64 s1, .int .i64 r1]] w fun e w' => e = .returned (.bool (decide (e0 = e1 ∧ v0 = v1 ∧ r0 = r1 ∧ l0 = l1))) ∧ Below w.heap.size w w' := by
  have hev : Ev (fun k => brazierref10_SameWords.f k l0 l1) (decide (l0 = l1)) := by
    unfold brazierref10_SameWords.f
    by_cases h : l0.length = l1.length
    · simp only [if_pos (show (l0.length : Int) = (l1.length : Int) by omega)]
      exact same_l l0 l1 h hl _ 0 (Nat.zero_add _) (fun j hj => absurd hj (Nat.not_lt_zero _))
    · simp only [if_neg (show ¬ (l0.length : Int) = (l1.length : Int) by omega)]
      rw [decide_eq_false (fun e => h (by rw [e]))]
      exact Ev.now _
  have hs : Ev (fun k => brazierref10_Same.f k e0 v0 l0 s0 r0 e1 v1 l1 s1 r1) (decide (e0 = e1 ∧ v0 = v1 ∧ r0 = r1 ∧ l0 = l1)) := by
    unfold brazierref10_Same.f
    by_cases a : e0 = e1
    · by_cases b : v0 = v1
      · by_cases c : r0 = r1
        · simp only [if_pos a, if_pos b, if_pos c]
          rw [show decide (e0 = e1 ∧ v0 = v1 ∧ r0 = r1 ∧ l0 = l1) = decide (l0 = l1) from by simp [a, b, c]]
          exact Ev.bind hev (Ev.now _)
        · simp only [if_pos a, if_pos b, if_neg c]
          rw [decide_eq_false (fun h => c h.2.2.1)]
          exact Ev.now _
      · simp only [if_pos a, if_neg b]
        rw [decide_eq_false (fun h => b h.2.1)]
        exact Ev.now _
    · simp only [if_neg a]
      rw [decide_eq_false (fun h => a h.1)]
      exact Ev.now _
  obtain ⟨k, hk⟩ := hs.rounds
  exact brazierref10_Same.calls k e0 v0 A0 c0 l0 s0 r0 e1 v1 A1 c1 l1 s1 r1 _ w h0 hc0 h1 hc1 hk
end Go.Proofs.Ytabkinlpbefjgaa.L

namespace Go.Proofs.Ytabkinlpbefjgaa.L
open Go.RowKit Go.Proofs.Ytabkinlpbefjgaa.X Go.Proofs.YtabkinlpbefjgaaW.PrintWords Go.Proofs.YtabkinlpbefjgaaW.PrintLast Go.Proofs.YtabkinlpbefjgaaW.PrintMore
attribute [local go_sem] max2_int min2_int max_two min_two max_three min_three max_four min_four   -- for this text's walks alone
set_option linter.unusedVariables false
set_option linter.unusedSimpArgs false
open Go.Proofs.Ytabkinlpbefjgaa.Pure
def RowsK {α : Type} (d : Kd α) (w : World) : List α → List (List Value) → Prop
  | [], [] => True
  | x :: xs, c :: cs => d.K w x c ∧ RowsK d w xs cs
  | _, _ => False
theorem rows_at {α : Type} {d : Kd α} {w : World} {g : Nat} : ∀ (xs : List α) (css : List (List Value)) (o : Nat), RowsK d w xs css → (∀ i u, css.flatten[i]? = some u → w.cell? ⟨g, o + i, none⟩ = some u) →
    ∀ j x, xs[j]? = some x → ∃ c, c.length = d.sz ∧ d.K w x c ∧ ∀ i u, c[i]? = some u → w.cell? ⟨g, o + (j * d.sz + i), none⟩ = some u
  | [], _, _, _, _, j, x, h => by simp at h
  | y :: xs, [], _, h, _, _, _, _ => h.elim
  | y :: xs, c :: cs, o, h, hc, j, x, hj => by
    have hlen := d.K_len h.1
    cases j with
    | zero =>
      have e : y = x := by simpa using hj
      subst e
      refine ⟨c, hlen, h.1, fun i u hu => ?_⟩
      have hi := (List.getElem?_eq_some_iff.1 hu).1
      have h2 := hc i u (by rw [List.flatten_cons, List.getElem?_append_left hi]; exact hu)
      rw [Nat.zero_mul, Nat.zero_add]
      exact h2
    | succ j =>
      have ih := rows_at xs cs (o + d.sz) h.2 (fun i u hu => by
        have h2 := hc (d.sz + i) u (by rw [List.flatten_cons, List.getElem?_append_right (by omega)]; rw [hlen, Nat.add_sub_cancel_left]; exact hu)
        rw [Nat.add_assoc]; exact h2) j x (by simpa using hj)
      obtain ⟨c2, h1, h2, h3⟩ := ih
      refine ⟨c2, h1, h2, fun i u hu => ?_⟩
      have := h3 i u hu
      rw [show o + ((j + 1) * d.sz + i) = o + d.sz + (j * d.sz + i) by rw [Nat.succ_mul]; omega]
      exact this
theorem C_block {α : Type} {d : Kd α} {w : World} {g : Nat} {t : TypeId} {cs : Array Value} (hb : w.heap[g]? = some (.cells cs t (0, 0))) (xs : List α) (css : List (List Value)) (hn : xs.length ≤ 9223372036854775807) (hr : RowsK d w xs css) (hc : css.flatten = cs.toList) : d.C w (some ⟨g, 0, none⟩) xs.length xs := by
  refine ⟨rfl, hn, fun _ => ⟨_, rfl, fun j x hx => ?_⟩⟩
  obtain ⟨c, h1, h2, h3⟩ := rows_at (g := g) xs css 0 hr (fun i u hu => by
    rw [Nat.zero_add, blk_cell hb i, ← Array.getElem?_toList, ← hc]; exact hu) j x hx
  exact ⟨c, h1, h2, fun i u hu => by rw [add_plain]; have := h3 i u hu; rw [Nat.zero_add] at this; exact this⟩
def x8 : S44 := ⟨8, 0, 0, -1, -1, 0, ⟨#[]⟩, []⟩
def x9 : S44 := ⟨9, 0, -1, 0, -1, 0, ⟨#[]⟩, []⟩
def bL : S41 := ⟨[x8, x9], 3, 0, 0, 0⟩
def fL : S47 := ⟨mainB, 0, 1, [bL]⟩
theorem lives_row (w : World) (a b c : Nat) (ha : w.heap[a]? = some (.cells #[.int .i64 8, .int .i64 0, .int .i64 0, .int .i64 (-1), .int .i64 (-1), .int .i32 0, .string ⟨#[]⟩, .slice none 0 0, .int .i64 9, .int .i64 0, .int .i64 (-1), .int .i64 0, .int .i64 (-1), .int .i32 0, .string ⟨#[]⟩, .slice none 0 0] 44 (0, 0)))
    (hb : w.heap[b]? = some (.cells #[.slice (some ⟨a, 0, none⟩) 2 2, .int .i64 3, .int .i64 0, .int .i64 0, .int .i64 0] 41 (0, 0)))
    (hc : w.heap[c]? = some (.cells #[.string ⟨#[109, 97, 105, 110]⟩, .int .i64 0, .int .i64 1, .slice (some ⟨b, 0, none⟩) 1 1] 47 (0, 0))) : Kd.C k47 w (some ⟨c, 0, none⟩) [fL].length [fL] := by
  have r44 : Kd.C k44 w (some ⟨a, 0, none⟩) [x8, x9].length [x8, x9] := C_block ha [x8, x9] [[.int .i64 8, .int .i64 0, .int .i64 0, .int .i64 (-1), .int .i64 (-1), .int .i32 0, .string ⟨#[]⟩, .slice none 0 0], [.int .i64 9, .int .i64 0, .int .i64 (-1), .int .i64 0, .int .i64 (-1), .int .i32 0, .string ⟨#[]⟩, .slice none 0 0]] (by decide)
    ⟨k44_mk w x8 (Nat.le_refl 0) (Kd.C_nil _ w), k44_mk w x9 (Nat.le_refl 0) (Kd.C_nil _ w), trivial⟩ rfl
  have r41 : Kd.C k41 w (some ⟨b, 0, none⟩) [bL].length [bL] := C_block hb [bL] [[.slice (some ⟨a, 0, none⟩) 2 2, .int .i64 3, .int .i64 0, .int .i64 0, .int .i64 0]] (by decide) ⟨k41_mk w bL (Nat.le_refl 2) r44, trivial⟩ rfl
  exact C_block hc [fL] [[.string ⟨#[109, 97, 105, 110]⟩, .int .i64 0, .int .i64 1, .slice (some ⟨b, 0, none⟩) 1 1]] (by decide) ⟨k47_mk w fL (Nat.le_refl 1) r41, trivial⟩ rfl
theorem fnAt_fL : fnAt [fL] mainB = 0 := by
  unfold fnAt
  simp [List.findIdx_cons, fL]
theorem ok_fL : OkMid [fL] [] := by
  refine ⟨fun f hf => ?_, fun k hk => ?_, fun k hk => absurd hk (Nat.not_lt_zero _), (fun g hg => by cases hg), ?_, ?_, by decide⟩
  · obtain rfl : f = fL := by simpa using hf
    refine ⟨fun b hb => ?_, by decide, by decide, by decide, by decide⟩
    obtain rfl : b = bL := by simpa [fL] using hb
    refine ⟨fun x hx => ?_, by decide, by decide, by decide, by decide, by decide⟩
    have hx2 : x = x8 ∨ x = x9 := by simpa [bL] using hx
    rcases hx2 with rfl | rfl
    · exact ⟨by decide, by decide, by decide, by decide, fun h => absurd h (by decide), by decide, by constructor <;> decide, fun h => absurd h (by decide)⟩
    · exact ⟨by decide, by decide, by decide, by decide, fun h => absurd h (by decide), by decide, by constructor <;> decide, fun h => absurd h (by decide)⟩
  · obtain rfl : k = 0 := by simpa using hk
    exact fnAt_fL
  · rw [fnAt_fL]; decide
  · rw [fnAt_fL]; rfl
theorem lives_run : ∃ G, runT [fL] [] [5] 100 = .fin 1 5 G ∧ G.tr = [5] ∧ G.st = 3 ∧ G.rd = 1 := by
  unfold runT
  have h : newFr [fL] mainB [] (-1) = ⟨0, [0], 0, 0, -1⟩ := by
    unfold newFr
    rw [fnAt_fL]
    rfl
  rw [h]
  exact ⟨_, rfl, rfl, rfl, rfl⟩
end Go.Proofs.Ytabkinlpbefjgaa.L

