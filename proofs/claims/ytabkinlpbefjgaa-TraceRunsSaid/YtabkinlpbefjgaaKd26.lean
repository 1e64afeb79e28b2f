/- Texts of this seat that a claim bears, put together by this session's own program shake.py: TrRp, TrRo, TrZl. -/
import Derived.Test.YtabkinlpbefjgaaKps
import Derived.Test.YtabkinlpbefjgaaKd25
namespace Go.Proofs.Ytabkinlpbefjgaa.L
open Go.RowKit Go.Proofs.Ytabkinlpbefjgaa.X Go.Proofs.YtabkinlpbefjgaaW.PrintWords Go.Proofs.YtabkinlpbefjgaaW.PrintLast Go.Proofs.YtabkinlpbefjgaaW.PrintMore
attribute [local go_sem] max2_int min2_int max_two min_two max_three min_three max_four min_four   -- for this text's walks alone
set_option linter.unusedVariables false
set_option linter.unusedSimpArgs false
open Go.Proofs.Ytabkinlpbefjgaa.Pure
structure PreR (w W : World) (GS : List S57) (AG : Option Addr) (cG : Nat) (F : List S47) (A : Option Addr) (cF : Nat) (inp : List Int) (AI : Option Addr) (cI : Nat) (fuel : Int) (dv : Value) (bs : List Nat) : Prop where
  below : Below w.heap.size w W
  box : W.heap[w.heap.size]? = some (Obj.cells #[.slice AG GS.length cG, .slice A F.length cF] 25 (0, 0))
  res : W.heap[w.heap.size + 1]? = some (Obj.cells #[.int .i64 0, .int .i32 0, .slice none 0 0, .int .i64 0, .int .i64 0] 32 (0, 0))
  m : W.heap[w.heap.size + 1 + 1]? = some (Obj.cells (rC ⟨.slice AG GS.length cG, .slice A F.length cF, dv, .slice AI inp.length cI, fuel⟩ ⟨0, 0, 0, .slice none 0 0, 0, 0⟩) 61 (0, 0))
  data : kval.R 26 W w.heap.size (fun q => w.heap.size + 1 + 1 < q ∧ q ∉ bs) dv (slv GS bs)
  rows : Rows_ W GS (w.heap.size + 1 + 1) bs
section
variable {w W : World} {GS : List S57} {AG : Option Addr} {cG : Nat} {F : List S47} {A : Option Addr} {cF : Nat} {inp : List Int} {AI : Option Addr} {cI : Nat} {fuel : Int} {dv : Value} {bs : List Nat}
theorem start_word (GS : List S57) (j : Nat) (hj : j < GS.length) : (Gl.start GS).words.getD j [] = List.replicate (wsize (GS.getD j z57)) 0 := by
  simp [Gl.start, wsize, List.getD_eq_getElem?_getD, List.getElem?_eq_getElem hj]
theorem preR_mk (h : PreR w W GS AG cG F A cF inp AI cI fuel dv bs) (hb : bs.length = GS.length)
    (hF : Kd.C k47 w A F.length F) (hG : Kd.C k57 w AG GS.length GS) (hI : (Kd.int .i32).C w AI inp.length inp)
    (hcF : F.length ≤ cF) (hcG : GS.length ≤ cG) (hcI : inp.length ≤ cI) (hM : OkMid F GS) (hw : ∀ v ∈ inp, W32 v) (hlen : inp.length ≤ 1000000) (hfuel : fuel ≤ 100000) (db cD : Nat)
    (h1 : 0 < GS.length → dv = .slice (some ⟨db, 0, none⟩) GS.length cD) (h2 : GS.length ≤ cD) (h3 : db ∉ bs) (h4 : w.heap.size + 1 + 1 ≠ db) (h5 : db < W.heap.size)
    (h6 : ∀ j b, bs[j]? = some b → W.cell? ⟨db, j, none⟩ = some (Value.slice (some ⟨b, 0, none⟩) (wsize (GS.getD j z57)) (wsize (GS.getD j z57)))) :
    QvOk ⟨w, w.heap.size + 1 + 1, db, cD, bs, AG, cG, GS, A, cF, F, AI, cI, inp, fuel, dv⟩ ∧ QInv ⟨w, w.heap.size + 1 + 1, db, cD, bs, AG, cG, GS, A, cF, F, AI, cI, inp, fuel, dv⟩ W (Gl.start GS) 0 0 0 (.slice none 0 0) := by
  have hgm : ∀ b ∈ bs, w.heap.size + 1 + 1 < b := fun b hm => by
    obtain ⟨j, hj⟩ := List.getElem?_of_mem hm
    exact (h.rows.at_ j b hj).1
  have hj : ∀ j b, bs[j]? = some b → j < GS.length := fun j b hj => by rw [← hb]; exact (List.getElem?_eq_some_iff.1 hj).1
  refine ⟨⟨hG, hcG, hF, hcF, hI, hcI, hM, hw, hlen, hfuel, h1, h2, hb, fun hm => Nat.lt_irrefl _ (hgm _ hm), h3, h4, h.rows.nodup, by show w.heap.size ≤ w.heap.size + 1 + 1; omega, fun b hm => by have := hgm b hm; show w.heap.size ≤ b; omega⟩, ⟨h.below, h.m, fun j b hjb => ?_, fun j b hjb => ?_, Kd.R_nil _ _ _ _ _, start_ok GS, Nat.zero_le _, Nat.zero_le _, h5⟩⟩
  · rw [start_word GS j (hj j b hjb), List.length_replicate]
    exact h6 j b hjb
  · rw [start_word GS j (hj j b hjb)]
    exact (h.rows.at_ j b hjb).2
theorem preR_q (h : PreR w W GS AG cG F A cF inp AI cI fuel dv bs) (hb : bs.length = GS.length)
    (hF : Kd.C k47 w A F.length F) (hG : Kd.C k57 w AG GS.length GS) (hI : (Kd.int .i32).C w AI inp.length inp)
    (hcF : F.length ≤ cF) (hcG : GS.length ≤ cG) (hcI : inp.length ≤ cI) (hM : OkMid F GS) (hw : ∀ v ∈ inp, W32 v) (hlen : inp.length ≤ 1000000) (hfuel : fuel ≤ 100000) :
    ∃ db cD, QvOk ⟨w, w.heap.size + 1 + 1, db, cD, bs, AG, cG, GS, A, cF, F, AI, cI, inp, fuel, dv⟩ ∧ QInv ⟨w, w.heap.size + 1 + 1, db, cD, bs, AG, cG, GS, A, cF, F, AI, cI, inp, fuel, dv⟩ W (Gl.start GS) 0 0 0 (.slice none 0 0) := by
  have hgm : ∀ b ∈ bs, w.heap.size + 1 + 1 < b := fun b hm => by
    obtain ⟨j, hj⟩ := List.getElem?_of_mem hm
    exact (h.rows.at_ j b hj).1
  have hmk := preR_mk h hb hF hG hI hcF hcG hcI hM hw hlen hfuel
  have hsl : (slv GS bs).length = GS.length := by rw [slv_len, hb]
  rcases Nat.eq_zero_or_pos GS.length with h0 | h0
  · refine ⟨w.heap.size, 0, hmk _ _ (fun hp => absurd h0 (by omega)) (by omega) (fun hm => by have := hgm _ hm; omega) (by omega) (blk_lt h.box) (fun j b hj => ?_)⟩
    have := (List.getElem?_eq_some_iff.1 hj).1
    omega
  · obtain ⟨inner, hown⟩ := Kd.R_own h.data
    obtain ⟨Ad, cd, hdv, hcd, hC⟩ := Kd.R_reads h.data
    rcases hown.2 with ⟨_, hn⟩ | ⟨g, cap, cur, hv, hg, hh, hnc, _⟩
    · omega
    · rw [hv] at hdv
      injection hdv with e1 e2 e3
      subst e1
      rw [hsl] at hv hnc
      have hok := h.data.1 g (by rw [hv]; rfl)
      refine ⟨g, cap, hmk _ _ (fun _ => hv) hnc hok.2 (by have := hok.1; omega) (blk_lt hh) (fun j b hj => ?_)⟩
      obtain ⟨ad, had, hc⟩ := kval_at hC (slv_at GS bs j b hj)
      injection had with had
      subst had
      rw [show (⟨g, j, none⟩ : Addr) = (⟨g, 0, none⟩ : Addr).add j by simp [Addr.add]]
      exact hc
def ROut (w : World) (GS : List S57) (AG : Option Addr) (cG : Nat) (F : List S47) (A : Option Addr) (cF : Nat) (inp : List Int) (AI : Option Addr) (cI : Nat) (fuel : Int) (dv : Value) (v : Int) (w' : World) : Prop :=
  ∃ (c en : Int) (A2 : Option Addr) (c2 : Nat) (G : Gl), w'.heap[w.heap.size + 1 + 1]? = some (Obj.cells (rC ⟨.slice AG GS.length cG, .slice A F.length cF, dv, .slice AI inp.length cI, fuel⟩ ⟨c, en, 0, .slice A2 G.tr.length c2, G.st, G.rd⟩) 61 (0, 0)) ∧
    w'.heap[w.heap.size + 1]? = some (Obj.cells #[.int .i64 0, .int .i32 0, .slice none 0 0, .int .i64 0, .int .i64 0] 32 (0, 0)) ∧ G.tr.length ≤ c2 ∧
    (∀ W' : World, (∀ k, k ≠ w.heap.size + 1 → k ≠ w.heap.size + 1 + 1 → w.heap.size ≤ k → k < w'.heap.size → W'.heap[k]? = w'.heap[k]?) → (Kd.int .i32).C W' A2 G.tr.length G.tr) ∧ Below w.heap.size w w' ∧
    ((en = 0 ∧ runT F GS inp fuel = .fin 1 v G) ∨ (en ≠ 0 ∧ runT F GS inp fuel = .fin en 0 G))
theorem rmain_at (h : PreR w W GS AG cG F A cF inp AI cI fuel dv bs) (hb : bs.length = GS.length)
    (hF : Kd.C k47 w A F.length F) (hG : Kd.C k57 w AG GS.length GS) (hI : (Kd.int .i32).C w AI inp.length inp)
    (hcF : F.length ≤ cF) (hcG : GS.length ≤ cG) (hcI : inp.length ≤ cI) (hM : OkMid F GS) (hw : ∀ v ∈ inp, W32 v) (hlen : inp.length ≤ 1000000) (hfuel : fuel ≤ 100000) :
    Calls Try.prog 18 #[.pointer (some ⟨w.heap.size + 1 + 1, 0, none⟩), .string ⟨#[109, 97, 105, 110]⟩, .slice none 0 0] W fun e w' => ∃ v, e = .returned (.int .i32 v) ∧ ROut w GS AG cG F A cF inp AI cI fuel dv v w' := by
  obtain ⟨db, cD, hVok, hQ⟩ := preR_q h hb hF hG hI hcF hcG hcI hM hw hlen hfuel
  refine (rmain hVok hQ).mono ?_
  rintro e w' ⟨v, he, tv', G2, hbl, hT, hv32, hcase⟩
  refine ⟨v, he, ?_⟩
  have hres : w'.heap[w.heap.size + 1]? = some (Obj.cells #[.int .i64 0, .int .i32 0, .slice none 0 0, .int .i64 0, .int .i64 0] 32 (0, 0)) := hT.blk h.res (fun hq => by
    rcases hq with hq | hq | hq
    · have e_ : w.heap.size + 1 = w.heap.size + 1 + 1 := hq
      omega
    · obtain ⟨j, hj⟩ := List.getElem?_of_mem hq
      have := (h.rows.at_ j _ hj).1
      omega
    · simp [Value.ownBlock] at hq)
  have hfin : ∀ {c en : Int} {u : Int}, QInv ⟨w, w.heap.size + 1 + 1, db, cD, bs, AG, cG, GS, A, cF, F, AI, cI, inp, fuel, dv⟩ w' G2 c en 0 tv' → ((en = 0 ∧ runT F GS inp fuel = .fin 1 v G2) ∨ (en ≠ 0 ∧ runT F GS inp fuel = .fin en 0 G2)) → ROut w GS AG cG F A cF inp AI cI fuel dv v w' := by
    intro c en u hq hr
    obtain ⟨A2, c2, htv, hl, _⟩ := Kd.R_reads hq.tr
    subst htv
    refine ⟨c, en, A2, c2, G2, hq.m, hres, hl, fun W' hW => ?_, hq.below, hr⟩
    have hm := Kd.R_move (w1 := W') (Kd.R_bound hq.tr) (fun k hk => by
      obtain ⟨hk1, hk2, hk3, q, hq5, cells, hk4⟩ := hk
      refine hW k (fun e => ?_) hk1.1 hk2 hk3
      rw [e, hres] at hk4
      injection hk4 with hk4
      injection hk4 with _ hk4
      have h21 : q = 21 := (List.mem_cons.1 hq5).elim (fun h => h) (fun h => absurd h (by show ¬ q ∈ ([] : List Nat); simp))
      rw [h21] at hk4
      exact absurd hk4 (by decide))
    obtain ⟨A3, c3, hv3, _, hC⟩ := Kd.R_reads hm
    injection hv3 with e1 e2 e3
    rw [e1]
    exact hC
  rcases hcase with ⟨hq, hr⟩ | ⟨en, c2, hne, hq, hr⟩
  · exact hfin (u := 0) hq (.inl ⟨rfl, hr⟩)
  · exact hfin (u := 0) hq (.inr ⟨hne, hr⟩)
def putR (W : World) (rs : Nat) (en v : Int) (A2 : Option Addr) (n c2 : Nat) (s r : Int) : World := ((((W.setCell ⟨rs, 0, none⟩ (.int .i64 en)).setCell ⟨rs, 1, none⟩ (.int .i32 v)).setCell ⟨rs, 2, none⟩ (.slice A2 n c2)).setCell ⟨rs, 3, none⟩ (.int .i64 s)).setCell ⟨rs, 4, none⟩ (.int .i64 r)
theorem putR_row {W : World} {rs : Nat} (h : W.heap[rs]? = some (Obj.cells #[.int .i64 0, .int .i32 0, .slice none 0 0, .int .i64 0, .int .i64 0] 32 (0, 0))) (en v : Int) (A2 : Option Addr) (n c2 : Nat) (s r : Int) :
    (putR W rs en v A2 n c2 s r).heap[rs]? = some (.cells #[.int .i64 en, .int .i32 v, .slice A2 n c2, .int .i64 s, .int .i64 r] 32 (0, 0)) := blk_put (blk_set (blk_set (blk_set (blk_set h 0 _) 1 _) 2 _) 3 _) 4 _ (by simp)
theorem putR_other (W : World) (rs : Nat) (en v : Int) (A2 : Option Addr) (n c2 : Nat) (s r : Int) (k : Nat) (hk : k ≠ rs) : (putR W rs en v A2 n c2 s r).heap[k]? = W.heap[k]? := by
  unfold putR
  rw [Below.heap_setCell _ _ _ _ hk, Below.heap_setCell _ _ _ _ hk, Below.heap_setCell _ _ _ _ hk, Below.heap_setCell _ _ _ _ hk, Below.heap_setCell _ _ _ _ hk]
theorem putR_size (W : World) (rs : Nat) (en v : Int) (A2 : Option Addr) (n c2 : Nat) (s r : Int) : W.heap.size ≤ (putR W rs en v A2 n c2 s r).heap.size :=
  (Below.setCell (Below.setCell (Below.setCell (Below.setCell (Below.setCell (Below.refl 0 W) (Nat.zero_le _) _) (Nat.zero_le _) _) (Nat.zero_le _) _) (Nat.zero_le _) _) (Nat.zero_le _) _).size
theorem run_end {w5 W1 : World} {en v : Int} {G : Gl} {A2 : Option Addr} {c2 : Nat} (hW1 : ∀ k, k ≠ w.heap.size + 1 + 1 → W1.heap[k]? = w5.heap[k]?) (hsz : w5.heap.size ≤ W1.heap.size)
    (hl2 : G.tr.length ≤ c2) (hC2 : ∀ W' : World, (∀ k, k ≠ w.heap.size + 1 → k ≠ w.heap.size + 1 + 1 → w.heap.size ≤ k → k < w5.heap.size → W'.heap[k]? = w5.heap[k]?) → (Kd.int .i32).C W' A2 G.tr.length G.tr) (hbl : Below w.heap.size w W1)
    (hr : runT F GS inp fuel = .fin en v G) :
    TracePost F GS inp fuel w (.returned (.agg #[.int .i64 en, .int .i32 v, .slice A2 G.tr.length c2, .int .i64 (G.st : Int), .int .i64 (G.rd : Int)])) (putR W1 (w.heap.size + 1) en v A2 G.tr.length c2 G.st G.rd) := by
  refine ⟨en, v, G, A2, c2, hr, rfl, hl2, fun W' hW => hC2 W' (fun k h1 h2 h3 h4 => ?_), ?_⟩
  · rw [hW k (Nat.lt_of_lt_of_le (Nat.lt_of_lt_of_le h4 hsz) (putR_size _ _ _ _ _ _ _ _ _)) (Nat.not_lt_of_le h3), putR_other _ _ _ _ _ _ _ _ _ _ h1, hW1 k h2]
  · exact below_set (below_set (below_set (below_set (below_set hbl (Nat.le_succ _)) (Nat.le_succ _)) (Nat.le_succ _)) (Nat.le_succ _)) (Nat.le_succ _)
end
end Go.Proofs.Ytabkinlpbefjgaa.L

namespace Go.Proofs.Ytabkinlpbefjgaa.L
open Go.RowKit Go.Proofs.Ytabkinlpbefjgaa.X Go.Proofs.YtabkinlpbefjgaaW.PrintWords Go.Proofs.YtabkinlpbefjgaaW.PrintLast Go.Proofs.YtabkinlpbefjgaaW.PrintMore
attribute [local go_sem] max2_int min2_int max_two min_two max_three min_three max_four min_four   -- for this text's walks alone
set_option linter.unusedVariables false
set_option linter.unusedSimpArgs false
open Go.Proofs.Ytabkinlpbefjgaa.Pure
theorem PreR.step {w W W5 : World} {GS : List S57} {AG : Option Addr} {cG : Nat} {F : List S47} {A : Option Addr} {cF : Nat} {inp : List Int} {AI : Option Addr} {cI : Nat} {fuel : Int} {dv v5 : Value} {bs : List Nat} {b : Nat}
    (h : PreR w W GS AG cG F A cF inp AI cI fuel dv bs) (ht : Tr (fun q => dv.ownBlock = some q) W W5) (hb : W5.heap[b]? = some (.cells (row32 (List.replicate (wsize (GS.getD bs.length z57)) 0)) 21 (0, 0))) (hbW : W.heap.size ≤ b) (hv : v5.ownBlock = dv.ownBlock ∨ ∃ q, v5.ownBlock = some q ∧ b < q) (hv1 : v5.oneCell' = true)
    (hd : kval.R 26 W5 w.heap.size (fun q => w.heap.size + 1 + 1 < q ∧ q ∉ bs) v5 (slv GS bs ++ [.slice (some ⟨b, 0, none⟩) (wsize (GS.getD bs.length z57)) (wsize (GS.getD bs.length z57))])) :
    PreR w (W5.setCell ⟨w.heap.size + 1 + 1, 2, none⟩ v5) GS AG cG F A cF inp AI cI fuel v5 (bs ++ [b]) := by
  have hm := blk_lt h.m
  have hown : ∀ q, dv.ownBlock = some q → w.heap.size + 1 + 1 < q ∧ q ∉ bs ∧ q < W.heap.size := fun q hq => ⟨(h.data.1 q hq).1, (h.data.1 q hq).2, (own_ge1 h.data q hq).2⟩
  have hown5 : ∀ q, v5.ownBlock = some q → w.heap.size + 1 + 1 < q ∧ q ∉ bs ∧ q ≠ b := fun q hq => by
    refine ⟨(hd.1 q hq).1, (hd.1 q hq).2, ?_⟩
    rcases hv with e | ⟨q', e, hlt⟩
    · have := (hown q (by rw [← e, hq])).2.2
      omega
    · rw [hq] at e
      injection e with e
      omega
  have hsub : ∀ k, (fun q => dv.ownBlock = some q) k → w.heap.size ≤ k := fun k hk => by have := (hown k hk).1; omega
  have hb5 : ∀ {g : Nat} {o : Obj}, g ≤ w.heap.size + 1 → W5.heap[g]? = some o → (W5.setCell ⟨w.heap.size + 1 + 1, 2, none⟩ v5).heap[g]? = some o := fun {g o} hg ho => by
    rw [Below.heap_setCell _ _ _ _ (show g ≠ w.heap.size + 1 + 1 by omega)]; exact ho
  refine ⟨below_set (h.below.trans (ht.to_below h.below.size hsub)) (by show w.heap.size ≤ w.heap.size + 1 + 1; omega), hb5 (by omega) (ht.blk h.box (fun hq => by have := (hown _ hq).1; omega)), hb5 (by omega) (ht.blk h.res (fun hq => by have := (hown _ hq).1; omega)), blk_put (ht.blk h.m (fun hq => by have := (hown _ hq).1; omega)) 2 _ (by simp [rC]), ?_, ?_⟩
  · rw [slv_snoc]
    refine Kd.R_far (p := ⟨w.heap.size + 1 + 1, 2, none⟩) (Kd.R_reok rfl hd (ok := fun q => w.heap.size + 1 + 1 < q ∧ q ∉ bs ++ [b]) (fun q hq => ?_)) (fun k hk => by have := hk.1; show k ≠ w.heap.size + 1 + 1; omega) v5
    have h_ := hown5 q hq
    exact ⟨h_.1, fun hm => (List.mem_append.1 hm).elim h_.2.1 (fun hm => h_.2.2 (List.mem_singleton.1 hm))⟩
  · have hr5 : Rows_ W5 GS (w.heap.size + 1 + 1) bs := ⟨fun j c hj => ⟨(h.rows.at_ j c hj).1, ht.blk (h.rows.at_ j c hj).2 (fun hq => (hown _ hq).2.1 (List.mem_of_getElem? hj))⟩, h.rows.nodup⟩
    have hs := hr5.snoc (b := b) (by omega) (fun hm2 => by
      obtain ⟨j, hj⟩ := List.getElem?_of_mem hm2
      have h_ := blk_lt (h.rows.at_ j b hj).2
      omega) hb
    exact ⟨fun j c hj => ⟨(hs.at_ j c hj).1, by rw [Below.heap_setCell _ _ _ _ (show c ≠ w.heap.size + 1 + 1 by have := (hs.at_ j c hj).1; omega)]; exact (hs.at_ j c hj).2⟩, hs.nodup⟩
set_option maxHeartbeats 4000000 in
set_option maxRecDepth 100000 in
theorem rrun_calls (F : List S47) (GS : List S57) (inp : List Int) (fuel : Int) (w : World) (A : Option Addr) (cF : Nat) (AG : Option Addr) (cG : Nat) (AI : Option Addr) (cI : Nat) (hF : Kd.C k47 w A F.length F) (hG : Kd.C k57 w AG GS.length GS) (hI : (Kd.int .i32).C w AI inp.length inp)
    (hcF : F.length ≤ cF) (hcG : GS.length ≤ cG) (hcI : inp.length ≤ cI) (hM : OkMid F GS) (hw : ∀ v ∈ inp, W32 v) (hlen : inp.length ≤ 1000000) (hfuel : fuel ≤ 100000) :
    Calls Try.prog 11 #[.agg #[.slice AG GS.length cG, .slice A F.length cF], .slice AI inp.length cI, .int .i64 fuel] w (TracePost F GS inp fuel w) := by
  have HF := Aside0.mk hF
  have HG := Aside0.mk hG
  have HI := Aside0.mk hI
  clear hF hG hI
  have I32 : Aside0 ((Try.prog.info? 32).map (·.size) = some 5) := ⟨by kernel_rfl⟩
  go_enter Try.func11, Try.ntmps11
  go_wp2
  have HP : Aside0 (PreR w (((w.alloc (.cells #[.slice AG GS.length cG, .slice A F.length cF] 25)).alloc (.cells #[.int .i64 0, .int .i32 0, .slice none 0 0, .int .i64 0, .int .i64 0] 32)).alloc (.cells #[.slice AG GS.length cG, .slice A F.length cF, .slice none 0 0, .slice AI inp.length cI, .int .i64 fuel, .int .i64 0, .int .i64 0, .int .i32 0, .slice none 0 0, .int .i64 0, .int .i64 0] 61)) GS AG cG F A cF inp AI cI fuel (.slice none 0 0) []) := by
    have e1 := blk_new w (.cells #[.slice AG GS.length cG, .slice A F.length cF] 25)
    have e2 : ((w.alloc (.cells #[.slice AG GS.length cG, .slice A F.length cF] 25)).alloc (.cells #[.int .i64 0, .int .i32 0, .slice none 0 0, .int .i64 0, .int .i64 0] 32)).heap[w.heap.size + 1]? = some (.cells #[.int .i64 0, .int .i32 0, .slice none 0 0, .int .i64 0, .int .i64 0] 32) := by have h_ := blk_new (w.alloc (.cells #[.slice AG GS.length cG, .slice A F.length cF] 25)) (.cells #[.int .i64 0, .int .i32 0, .slice none 0 0, .int .i64 0, .int .i64 0] 32); simpa using h_
    have e3 : (((w.alloc (.cells #[.slice AG GS.length cG, .slice A F.length cF] 25)).alloc (.cells #[.int .i64 0, .int .i32 0, .slice none 0 0, .int .i64 0, .int .i64 0] 32)).alloc (.cells #[.slice AG GS.length cG, .slice A F.length cF, .slice none 0 0, .slice AI inp.length cI, .int .i64 fuel, .int .i64 0, .int .i64 0, .int .i32 0, .slice none 0 0, .int .i64 0, .int .i64 0] 61)).heap[w.heap.size + 1 + 1]? = some (.cells #[.slice AG GS.length cG, .slice A F.length cF, .slice none 0 0, .slice AI inp.length cI, .int .i64 fuel, .int .i64 0, .int .i64 0, .int .i32 0, .slice none 0 0, .int .i64 0, .int .i64 0] 61) := by have h_ := blk_new ((w.alloc (.cells #[.slice AG GS.length cG, .slice A F.length cF] 25)).alloc (.cells #[.int .i64 0, .int .i32 0, .slice none 0 0, .int .i64 0, .int .i64 0] 32)) (.cells #[.slice AG GS.length cG, .slice A F.length cF, .slice none 0 0, .slice AI inp.length cI, .int .i64 fuel, .int .i64 0, .int .i64 0, .int .i32 0, .slice none 0 0, .int .i64 0, .int .i64 0] 61); simpa using h_
    exact ⟨⟨below_alloc (below_alloc (below_alloc (Below.refl _ _) _) _) _, blk_alloc (blk_alloc e1 _) _, blk_alloc e2 _, e3, Kd.R_nil _ _ _ _ _, ⟨fun j b h => by simp at h, by simp⟩⟩⟩
  generalize ((w.alloc (.cells #[.slice AG GS.length cG, .slice A F.length cF] 25)).alloc (.cells #[.int .i64 0, .int .i32 0, .slice none 0 0, .int .i64 0, .int .i64 0] 32)).alloc (.cells #[.slice AG GS.length cG, .slice A F.length cF, .slice none 0 0, .slice AI inp.length cI, .int .i64 fuel, .int .i64 0, .int .i64 0, .int .i32 0, .slice none 0 0, .int .i64 0, .int .i64 0] 61) = W0 at HP ⊢
  go_loopg [19] (GS.length) (fun kq v wr => ∃ (k : Nat) (bs : List Nat) (dv : Value), Aside0 (k + kq = GS.length) ∧ v = .int .i64 (k : Int) ∧ Aside0 (bs.length = k) ∧ Aside0 (PreR w wr GS AG cG F A cF inp AI cI fuel dv bs))
  case atStart => exact ⟨0, [], _, ⟨Nat.zero_add _⟩, rfl, ⟨rfl⟩, HP⟩
  case round =>
    obtain ⟨k, bs, dv, HK, rfl, HBS, HPR⟩ := hrel
    by_cases hlt : k < GS.length
    · cases gk with
      | zero => exact absurd HK.out (by omega)
      | succ q1 =>
        obtain ⟨ad, had, g0, g1⟩ := at_T57 HG.out (k : Int) (by omega) (by omega)
        subst had
        rw [Int.toNat_natCast, rd57] at g0 g1
        replace g0 := pw_cell_below HPR.out.below g0
        replace g1 := pw_cell_below HPR.out.below g1
        obtain ⟨gl, hgl⟩ : ∃ gl, GS.getD k z57 = gl := ⟨_, rfl⟩
        rw [hgl] at g0 g1
        have HGL := Aside0.mk hgl
        have HSZ := Aside0.mk (hM.size gl (by rw [← hgl, List.getD_eq_getElem?_getD, List.getElem?_eq_getElem hlt]; exact List.getElem_mem hlt))
        clear hgl
        have q1_ : (if gl.f1 < 1 then 1 else gl.f1) = (wsize gl : Int) := by unfold wsize; split <;> omega
        have HFR : Aside0 (∀ q, wr.heap.size ≤ q → w.heap.size + 1 + 1 < q ∧ q ∉ bs) := ⟨fun q hq => ⟨Nat.lt_of_lt_of_le (blk_lt HPR.out.m) hq, fun hm2 => by
          obtain ⟨j, hj⟩ := List.getElem?_of_mem hm2
          have h_ := blk_lt (HPR.out.rows.at_ j q hj).2
          omega⟩⟩
        have HNE : Aside0 (some (w.heap.size + 1 + 1) ≠ dv.ownBlock) := ⟨fun e => by have := (HPR.out.data.1 _ e.symm).1; omega⟩
        have HLM : Aside0 (((slv GS bs).length + 1) * 24 ≤ 140737488355328) := ⟨by rw [slv_len, HBS.out]; have h_ := hM.few.2; omega⟩
        have q2_ : (if 1 < gl.f1 then gl.f1 else 1) = (wsize gl : Int) := by unfold wsize; split <;> omega
        go_wp2
        have HT1 : Aside0 (Tr nil_ wr (wr.alloc (.cells #[.string gl.f0, .int .i64 gl.f1] 57))) := ⟨(Tr.refl nil_ wr).alloc _⟩
        have hb1 := blk_new wr (.cells #[.string gl.f0, .int .i64 gl.f1] 57)
        generalize wr.alloc (.cells #[.string gl.f0, .int .i64 gl.f1] 57) = w2 at HT1 hb1 ⊢
        have c1 : w2.cell? ⟨wr.heap.size, 1, none⟩ = some (.int .i64 gl.f1) := (blk_cell hb1 1).trans rfl
        have m2 : w2.cell? ⟨w.heap.size + 1 + 1, 2, none⟩ = some dv := HT1.out.cell ((blk_cell HPR.out.m 2).trans rfl) (fun h => h)
        clear hb1 g0 g1
        refine start_ (n := 14) (S := fun w_ => w_.cell? ⟨w.heap.size + 1 + 1, 2, none⟩ = some dv ∧ w_.cell? ⟨wr.heap.size, 1, none⟩ = some (.int .i64 gl.f1)) (ds := [10, 13]) #[false, false, false, false, false, false, false, false, false, false, false, false, false, false] (by kernel_rfl) rfl rfl ⟨m2, c1⟩ (fun hHeld => ?_)
        refine pure_ (i := 0) (N := some 23) (v := ?_) (a' := ?_) #[true, false, false, false, false, false, false, false, false, false, false, false, false, false] rfl rfl (by kernel_rfl) (fun _ _ _ h => h) (Or.inl ⟨by rfl, ?_⟩) ?_ ?_
        rotate_left
        · intro w'
          go_simp
          with_reducible rfl
        rotate_left
        · simp only [ps_]
          rfl
        refine pure_ (i := 1) (N := some 24) (v := ?_) (a' := ?_) #[true, true, false, false, false, false, false, false, false, false, false, false, false, false] rfl rfl (by kernel_rfl) (fun _ _ _ h => h) (Or.inl ⟨by rfl, ?_⟩) ?_ ?_
        rotate_left
        · intro w'
          go_simp
          with_reducible rfl
        rotate_left
        · simp only [ps_]
          rfl
        refine pure_ (i := 2) (N := some 25) (v := ?_) (a' := ?_) #[true, true, true, false, false, false, false, false, false, false, false, false, false, false] rfl rfl (by kernel_rfl) (fun _ _ _ h => h) (Or.inl ⟨by rfl, ?_⟩) ?_ ?_
        rotate_left
        · intro w'
          go_simp
          with_reducible rfl
        rotate_left
        · simp only [ps_]
          rfl
        refine pure_ (i := 3) (N := some 26) (v := ?_) (a' := ?_) #[true, true, true, true, false, false, false, false, false, false, false, false, false, false] rfl rfl (by kernel_rfl) (fun _ _ _ h => h) (Or.inl ⟨by rfl, ?_⟩) ?_ ?_
        rotate_left
        · intro w'
          go_simp
          with_reducible rfl
        rotate_left
        · simp only [ps_]
          rfl
        refine pure_ (i := 5) (N := some 28) (v := ?_) (a' := ?_) #[true, true, true, true, false, true, false, false, false, false, false, false, false, false] rfl rfl (by kernel_rfl) (fun _ _ _ h => h) (Or.inl ⟨by rfl, ?_⟩) ?_ ?_
        rotate_left
        · intro w'
          go_simp
          with_reducible rfl
        rotate_left
        · simp only [ps_]
          rfl
        refine take_ (i := 6) (N := some 29) (v := ?_) (a' := ?_) #[true, true, true, true, false, true, true, false, false, false, false, false, false, false] rfl rfl (by kernel_rfl) (fun _ _ _ h => h) (Or.inl ⟨by rfl, ?_⟩) hHeld ?_ ?_
        rotate_left
        · rintro w' ⟨h0_, h1_⟩
          go_simp
          with_reducible rfl
        rotate_left
        · simp only [ps_]
          rfl
        refine pure_ (i := 7) (N := some 30) (v := ?_) (a' := ?_) #[true, true, true, true, false, true, true, true, false, false, false, false, false, false] rfl rfl (by kernel_rfl) (fun _ _ _ h => h) (Or.inl ⟨by rfl, ?_⟩) ?_ ?_
        rotate_left
        · intro w'
          go_simp
          with_reducible rfl
        rotate_left
        · simp only [ps_]
          rfl
        refine take_ (i := 4) (N := some 27) (v := ?_) (a' := ?_) #[true, true, true, true, true, true, true, true, false, false, false, false, false, false] rfl rfl (by kernel_rfl) (fun _ _ _ h => h) (Or.inl ⟨by rfl, ?_⟩) hHeld ?_ ?_
        rotate_left
        · rintro w' ⟨h0_, h1_⟩
          go_simp
          with_reducible rfl
        rotate_left
        · simp only [ps_]
          rfl
        refine one_ (i := 8) (N := some 31) #[true, true, true, true, true, true, true, true, true, false, false, false, false, false] rfl rfl (by kernel_rfl) (by decide) (fun K hK => ?_)
        rw [if_pos (by rfl)]
        refine op_make32 (.tmp 30) (.tmp 30) rfl (wsize gl) rfl rfl (by have h_ := HSZ.out; unfold wsize; omega) ?_
        intro w3 h3_ ht3_
        have H3 := Aside0.mk h3_
        have HT3 : Aside0 (Tr nil_ w2 w3) := ⟨(Tr.refl nil_ w2).drew.trans ht3_⟩
        refine hK.out _ _ ⟨ht3_.cell hHeld.1 (fun h => h), ht3_.cell hHeld.2 (fun h => h)⟩ (fun hHeld => ?_)
        clear h3_ ht3_
        clear hK K
        refine norm_ (a' := ?_) ?_ ?_
        rotate_left
        · show Act.put _ (some 31) _ = _
          simp only [ps_]
          rfl
        refine one_ (i := 9) (N := some 32) #[true, true, true, true, true, true, true, true, true, true, false, false, false, false] rfl rfl (by kernel_rfl) (by decide) (fun K hK => ?_)
        refine event_step (v := .slice (some ⟨w3.heap.size, 0, none⟩) 1 1) (w1 := w3.alloc (.cells #[.slice (some ⟨w2.heap.size, 0, none⟩) (wsize gl) (wsize gl)] 26)) (by rfl) ?hr ?_
        (case hr => first | (go_simp; done) | (go_simp; rfl))
        refine hK.out _ _ ⟨pw_cell_below (below_alloc (Below.refl _ _) _) hHeld.1, pw_cell_below (below_alloc (Below.refl _ _) _) hHeld.2⟩ (fun hHeld => ?_)
        clear hK K
        refine norm_ (a' := ?_) ?_ ?_
        rotate_left
        · show Act.put _ (some 32) _ = _
          simp only [ps_]
          rfl
        refine last_ (i := 10) (N := some 33) #[true, true, true, true, true, true, true, true, true, true, true, false, false, false] rfl rfl (by kernel_rfl) (by decide) (fun K hK => ?_)
        have hbk_ := blk_new w3 (.cells #[.slice (some ⟨w2.heap.size, 0, none⟩) (wsize gl) (wsize gl)] 26)
        have HT5 : Aside0 (Tr nil_ wr (w3.alloc (.cells #[.slice (some ⟨w2.heap.size, 0, none⟩) (wsize gl) (wsize gl)] 26))) := ⟨(HT1.out.trans HT3.out).alloc _⟩
        have HV_ : Aside0 (kval.C (w3.alloc (.cells #[.slice (some ⟨w2.heap.size, 0, none⟩) (wsize gl) (wsize gl)] 26)) (some ⟨w3.heap.size, 0, none⟩) 1 [.slice (some ⟨w2.heap.size, 0, none⟩) (wsize gl) (wsize gl)]) := ⟨C_block (d := kval) hbk_ [Value.slice (some ⟨w2.heap.size, 0, none⟩) (wsize gl) (wsize gl)] [[Value.slice (some ⟨w2.heap.size, 0, none⟩) (wsize gl) (wsize gl)]] (by show 1 ≤ 9223372036854775807; decide) ⟨⟨rfl, rfl⟩, trivial⟩ rfl⟩
        have HH3 : Aside0 ((w3.alloc (.cells #[.slice (some ⟨w2.heap.size, 0, none⟩) (wsize gl) (wsize gl)] 26)).heap[w2.heap.size]? = some (.cells (row32 (List.replicate (wsize gl) 0)) 21 (0, 0))) := ⟨blk_alloc H3.out _⟩
        have HLT4 : Aside0 (w2.heap.size < (w3.alloc (.cells #[.slice (some ⟨w2.heap.size, 0, none⟩) (wsize gl) (wsize gl)] 26)).heap.size) := ⟨blk_lt HH3.out⟩
        clear hbk_
        generalize hw4 : w3.alloc (.cells #[.slice (some ⟨w2.heap.size, 0, none⟩) (wsize gl) (wsize gl)] 26) = w4 at HT5 HV_ HH3 HLT4 hHeld ⊢
        clear hw4
        refine Kd.R_append_rows_step kval (Rr := fun x cs => cs = [x] ∧ x.oneCell' = true) (w0 := w4) w.heap.size (by rfl) (.tmp 27) (.tmp 32) 59 26 (.slice none 0 0) 24 rfl Try.underlying59 info26 rfl (show 0 < 1 by decide) (by decide) dv (slv GS bs) [.slice (some ⟨w2.heap.size, 0, none⟩) (wsize gl) (wsize gl)] (some ⟨w3.heap.size, 0, none⟩) 1 1 (fun q => w.heap.size + 1 + 1 < q ∧ q ∉ bs) (fun _ => False) rfl rfl (Kd.R_step HPR.out.data (fun q _ hlt => HT5.out.keep q hlt (fun h => h))) HV_.out (fun _ _ h => h) (fun _ h => h.elim) (fun q hq => ?aF) (Below.refl _ _) (Nat.le_trans HPR.out.below.size HT5.out.size) ?aL ?_
        case aF => exact HFR.out q (Nat.le_trans HT5.out.size hq)
        case aL => exact HLM.out
        intro v5 w5 ho hb hg_ hat_
        obtain ⟨A5, c5, hv5⟩ := Kd.R_slice ho
        rw [List.length_append, List.length_singleton] at hv5
        subst hv5
        have HO5 := Aside0.mk ho
        have HB5 := Aside0.mk hb
        have HG5 := Aside0.mk hg_
        have HAT5 := Aside0.mk hat_
        clear ho hb hg_ hat_
        refine hK.out _ _ ?_
        clear hK K
        refine norm_ (a' := ?_) ?_ ?_
        rotate_left
        · show Act.put _ (some 33) _ = _
          simp only [ps_]
          rfl
        refine pure_ (i := 11) (N := some 34) (v := ?_) (a' := ?_) #[true, true, true, true, true, true, true, true, true, true, true, true, false, false] rfl rfl (by kernel_rfl) (fun _ _ _ h => h) (Or.inl ⟨by rfl, ?_⟩) ?_ ?_
        rotate_left
        · intro w'
          go_simp
          with_reducible rfl
        rotate_left
        · simp only [ps_]
          rfl
        refine pure_ (i := 12) (N := some 35) (v := ?_) (a' := ?_) #[true, true, true, true, true, true, true, true, true, true, true, true, true, false] rfl rfl (by kernel_rfl) (fun _ _ _ h => h) (Or.inl ⟨by rfl, ?_⟩) ?_ ?_
        rotate_left
        · intro w'
          go_simp
          with_reducible rfl
        rotate_left
        · simp only [ps_]
          rfl
        refine last_ (i := 13) (N := none) #[true, true, true, true, true, true, true, true, true, true, true, true, true, true] rfl rfl (by kernel_rfl) (by decide) (fun K hK => ?_)
        have hm5 := blk_grown (HT5.out.blk HPR.out.m (fun h => h)) HG5.out HNE.out
        have c52 : w5.cell? ⟨w.heap.size + 1 + 1, 2, none⟩ = some dv := (blk_cell hm5 2).trans rfl
        have f52 := blk_frozen hm5 2
        clear hm5
        rw [if_pos (by rfl)]
        go_simp
        refine hK.out _ _ ?_
        clear hK K
        refine done_ (by kernel_rfl) ?_
        clear hHeld c52 f52 c1 m2 q1_ q2_
        have hfw := hM.few.2
        go_wp2
        go_roundg q1
        case measure => omega
        case rel =>
          have hTr5 : Tr (fun q => dv.ownBlock = some q) wr w5 := (HT5.out.mono (fun q hq => hq.elim)).grown HG5.out (fun k hk => .inl hk)
          have hlt4 := HLT4.out
          have hs2 := HT1.out.size
          have hne2 : dv.ownBlock ≠ some w2.heap.size := fun e => by
            have := (own_ge1 HPR.out.data _ e).2
            omega
          have hb5 := blk_grown HH3.out HG5.out (fun e => hne2 e.symm)
          refine ⟨k + 1, bs ++ [w2.heap.size], _, ⟨by have := HK.out; omega⟩, by go_num, ⟨by rw [List.length_append, HBS.out]; rfl⟩, ⟨HPR.out.step hTr5 (by rw [HBS.out, HGL.out]; exact hb5) hs2 ?_ rfl (by rw [HBS.out, HGL.out]; exact HO5.out)⟩⟩
          rcases HAT5.out with e | ⟨b, e, hle⟩
          · exact .inl e
          · exact .inr ⟨b, e, by omega⟩
    · obtain rfl : k = GS.length := by have := HK.out; omega
      clear hlt
      go_wp2_with (go_at_call 18; (with_reducible refine (rmain_at HPR.out HBS.out HF.out HG.out HI.out hcF hcG hcI hM hw hlen hfuel).mono ?_); rintro e w5 ⟨v, rfl, c, en, A2, c2, G, hmb, hrs, hl2, hC2, hbl, hr⟩; have m6 : w5.cell? ⟨w.heap.size + 1 + 1, 6, none⟩ = some (.int .i64 en) := (blk_cell hmb 6).trans rfl; have fm6 := blk_frozen hmb 6; have m7 : w5.cell? ⟨w.heap.size + 1 + 1, 7, none⟩ = some (.int .i32 0) := (blk_cell hmb 7).trans rfl; have fm7 := blk_frozen hmb 7; have m8 : w5.cell? ⟨w.heap.size + 1 + 1, 8, none⟩ = some (.slice A2 G.tr.length c2) := (blk_cell hmb 8).trans rfl; have fm8 := blk_frozen hmb 8; have m9 : w5.cell? ⟨w.heap.size + 1 + 1, 9, none⟩ = some (.int .i64 (G.st : Int)) := (blk_cell hmb 9).trans rfl; have fm9 := blk_frozen hmb 9; have m10 : w5.cell? ⟨w.heap.size + 1 + 1, 10, none⟩ = some (.int .i64 (G.rd : Int)) := (blk_cell hmb 10).trans rfl; have fm10 := blk_frozen hmb 10; have r0 : w5.cell? ⟨w.heap.size + 1, 0, none⟩ = some (.int .i64 0) := (blk_cell hrs 0).trans rfl; have fr0 := blk_frozen hrs 0; have r1 : w5.cell? ⟨w.heap.size + 1, 1, none⟩ = some (.int .i32 0) := (blk_cell hrs 1).trans rfl; have fr1 := blk_frozen hrs 1; have r2 : w5.cell? ⟨w.heap.size + 1, 2, none⟩ = some (.slice none 0 0) := (blk_cell hrs 2).trans rfl; have fr2 := blk_frozen hrs 2; have r3 : w5.cell? ⟨w.heap.size + 1, 3, none⟩ = some (.int .i64 0) := (blk_cell hrs 3).trans rfl; have fr3 := blk_frozen hrs 3; have r4 : w5.cell? ⟨w.heap.size + 1, 4, none⟩ = some (.int .i64 0) := (blk_cell hrs 4).trans rfl; have fr4 := blk_frozen hrs 4; have HMB := Aside0.mk hmb; have HRS := Aside0.mk hrs; have HL2 := Aside0.mk hl2; have HC2 := Aside0.mk hC2; have HBL := Aside0.mk hbl; clear hmb hrs hl2 hC2 hbl; (rcases hr with ⟨rfl, hr⟩ | ⟨hne, hr⟩); have HR := Aside0.mk hr; clear hr)
      · refine bodyPost_ret (v := .agg #[.int .i64 1, .int .i32 v, .slice A2 G.tr.length c2, .int .i64 (G.st : Int), .int .i64 (G.rd : Int)]) (results_cell_row rfl _ _ (w.heap.size + 1) 32 _ (0, 0) _ rfl (putR_row (W := (w5.setCell ⟨w.heap.size + 1 + 1, 6, none⟩ (.int .i64 1)).setCell ⟨w.heap.size + 1 + 1, 7, none⟩ (.int .i32 v)) ?_ 1 v A2 G.tr.length c2 G.st G.rd) Try.underlying32 rfl I32.out) rfl (run_end (w5 := w5) ?_ ?_ HL2.out HC2.out ?_ HR.out)
        · rw [Below.heap_setCell _ _ _ _ (show w.heap.size + 1 ≠ w.heap.size + 1 + 1 by omega), Below.heap_setCell _ _ _ _ (show w.heap.size + 1 ≠ w.heap.size + 1 + 1 by omega)]
          exact HRS.out
        · intro k hk
          rw [Below.heap_setCell _ _ _ _ hk, Below.heap_setCell _ _ _ _ hk]
        · exact (Below.setCell (Below.setCell (Below.refl 0 w5) (Nat.zero_le _) _) (Nat.zero_le _) _).size
        · exact below_set (below_set HBL.out (by show w.heap.size ≤ w.heap.size + 1 + 1; omega)) (by show w.heap.size ≤ w.heap.size + 1 + 1; omega)
      · exact bodyPost_ret (v := .agg #[.int .i64 en, .int .i32 0, .slice A2 G.tr.length c2, .int .i64 (G.st : Int), .int .i64 (G.rd : Int)]) (results_cell_row rfl _ _ (w.heap.size + 1) 32 _ (0, 0) _ rfl (putR_row (W := w5) HRS.out en 0 A2 G.tr.length c2 G.st G.rd) Try.underlying32 rfl I32.out) rfl (run_end (w5 := w5) (fun _ _ => rfl) (Nat.le_refl _) HL2.out HC2.out HBL.out (by assumption))
end Go.Proofs.Ytabkinlpbefjgaa.L

namespace Go.Proofs.Ytabkinlpbefjgaa.L
open Go.RowKit Go.Proofs.Ytabkinlpbefjgaa.X Go.Proofs.YtabkinlpbefjgaaW.PrintWords Go.Proofs.YtabkinlpbefjgaaW.PrintLast Go.Proofs.YtabkinlpbefjgaaW.PrintMore
attribute [local go_sem] max2_int min2_int max_two min_two max_three min_three max_four min_four   -- for this text's walks alone
set_option linter.unusedVariables false
set_option linter.unusedSimpArgs false
open Go.Proofs.Ytabkinlpbefjgaa.Pure
theorem may_fL (A : Option Addr) (c : Nat) (w : World) (hF : Kd.C k47 w A [fL].length [fL]) (hc : 1 ≤ c) :
    Calls Try.prog 15 #[.agg #[.slice none 0 0, .slice A 1 c]] w fun e w' => e = .returned (.bool true) ∧ Below w.heap.size w w' := by
  refine may_yes [fL] A c w hF hc (by decide) (by rw [fnAt_fL]; decide) (by rw [fnAt_fL]; rfl) (fun k hk => ?_)
  obtain rfl : k = 0 := by simpa using hk
  refine ⟨fun A3 c3 w h3 hc3 => ?_, fnAt_fL, fun b hb x hx => ?_⟩
  · refine mayfn_yes fL A3 c3 w h3 hc3 isname_main (by decide) (by decide) (by decide) (by decide) (by decide) (fun b hb => ?_)
    obtain rfl : b = bL := by simpa [fL] using hb
    refine ⟨fun x hx => ?_, .inl ⟨rfl, rfl, rfl⟩, by decide⟩
    have hx2 : x = x8 ∨ x = x9 := by simpa [bL] using hx
    rcases hx2 with rfl | rfl
    · exact fun A7 c7 w _ _ => yes_x8 A7 c7 w
    · exact fun A7 c7 w _ _ => yes_x9 A7 c7 w
  · have hb2 : b = bL := by
      have : b ∈ [bL] := hb
      simpa using this
    subst hb2
    have hx2 : x = x8 ∨ x = x9 := by simpa [bL] using hx
    rcases hx2 with rfl | rfl
    · exact ⟨by decide, by decide, fun h => absurd h (by decide)⟩
    · exact ⟨by decide, by decide, fun h => absurd h (by decide)⟩
theorem trace_fL (A B : Addr) (w : World) (hF : Kd.C k47 w (some A) [fL].length [fL]) (hI : (Kd.int .i32).C w (some B) 1 [5]) :
    Calls Try.prog 10 #[.agg #[.slice none 0 0, .slice (some A) 1 1], .slice (some B) 1 1, .int .i64 100] w fun e w' => ∃ D c, e = .returned (.agg #[.int .i64 1, .int .i32 5, .slice D 1 c, .int .i64 3, .int .i64 1]) ∧ (Kd.int .i32).C w' D 1 [5] ∧ Below w.heap.size w w' := by
  refine (trace_calls [fL] [] [5] 100 w A 1 none 0 (some B) 1 hF (Kd.C_nil k57 w) hI (by decide) (by decide) (by decide) ok_fL ?_ ?_ ?_ (by decide) (by decide)).mono ?_
  · intro v hv
    obtain rfl : v = 5 := by simpa using hv
    constructor <;> decide
  · intro f hf
    obtain rfl : f = fL := by simpa using hf
    decide
  · intro g hg
    cases hg
  · rintro e w' ⟨en, v, G, D, c, hr, he, _, hC, hB⟩
    obtain ⟨G2, h1, h2, h3, h4⟩ := lives_run
    rw [h1] at hr
    injection hr with r1 r2 r3
    subst r1 r2 r3
    rw [h2, h3, h4] at he
    have hC := hC.now
    rw [h2] at hC
    exact ⟨D, c, he, hC, hB⟩
@[reducible] def livesW (w : World) : World := ((((w.alloc (.cells #[.int .i64 8, .int .i64 0, .int .i64 0, .int .i64 (-1), .int .i64 (-1), .int .i32 0, .string ⟨#[]⟩, .slice none 0 0, .int .i64 9, .int .i64 0, .int .i64 (-1), .int .i64 0, .int .i64 (-1), .int .i32 0, .string ⟨#[]⟩, .slice none 0 0] 44)).alloc (.cells #[.slice (some ⟨w.heap.size, 0, none⟩) 2 2, .int .i64 3, .int .i64 0, .int .i64 0, .int .i64 0] 41)).alloc (.cells #[.string ⟨#[109, 97, 105, 110]⟩, .int .i64 0, .int .i64 1, .slice (some ⟨w.heap.size + 1, 0, none⟩) 1 1] 47)).alloc (.cells #[.slice none 0 0, .slice (some ⟨w.heap.size + 1 + 1, 0, none⟩) 1 1] 25)).alloc (.cells #[.int .i32 5] 21)
theorem livesW_facts (w : World) : Below w.heap.size w (livesW w) ∧ Kd.C k47 (livesW w) (some ⟨w.heap.size + 1 + 1, 0, none⟩) [fL].length [fL] ∧ (Kd.int .i32).C (livesW w) (some ⟨w.heap.size + 1 + 1 + 1 + 1, 0, none⟩) 1 [5] ∧ (livesW w).heap[w.heap.size + 1 + 1 + 1]? = some (.cells #[.slice none 0 0, .slice (some ⟨w.heap.size + 1 + 1, 0, none⟩) 1 1] 25 (0, 0)) := by
  have h1 := blk_new w (.cells #[.int .i64 8, .int .i64 0, .int .i64 0, .int .i64 (-1), .int .i64 (-1), .int .i32 0, .string ⟨#[]⟩, .slice none 0 0, .int .i64 9, .int .i64 0, .int .i64 (-1), .int .i64 0, .int .i64 (-1), .int .i32 0, .string ⟨#[]⟩, .slice none 0 0] 44)
  have h2 : ((w.alloc (.cells #[.int .i64 8, .int .i64 0, .int .i64 0, .int .i64 (-1), .int .i64 (-1), .int .i32 0, .string ⟨#[]⟩, .slice none 0 0, .int .i64 9, .int .i64 0, .int .i64 (-1), .int .i64 0, .int .i64 (-1), .int .i32 0, .string ⟨#[]⟩, .slice none 0 0] 44)).alloc (.cells #[.slice (some ⟨w.heap.size, 0, none⟩) 2 2, .int .i64 3, .int .i64 0, .int .i64 0, .int .i64 0] 41)).heap[w.heap.size + 1]? = some (.cells #[.slice (some ⟨w.heap.size, 0, none⟩) 2 2, .int .i64 3, .int .i64 0, .int .i64 0, .int .i64 0] 41) := by have h_ := blk_new (w.alloc (.cells #[.int .i64 8, .int .i64 0, .int .i64 0, .int .i64 (-1), .int .i64 (-1), .int .i32 0, .string ⟨#[]⟩, .slice none 0 0, .int .i64 9, .int .i64 0, .int .i64 (-1), .int .i64 0, .int .i64 (-1), .int .i32 0, .string ⟨#[]⟩, .slice none 0 0] 44)) (.cells #[.slice (some ⟨w.heap.size, 0, none⟩) 2 2, .int .i64 3, .int .i64 0, .int .i64 0, .int .i64 0] 41); simpa using h_
  have h3 : (((w.alloc (.cells #[.int .i64 8, .int .i64 0, .int .i64 0, .int .i64 (-1), .int .i64 (-1), .int .i32 0, .string ⟨#[]⟩, .slice none 0 0, .int .i64 9, .int .i64 0, .int .i64 (-1), .int .i64 0, .int .i64 (-1), .int .i32 0, .string ⟨#[]⟩, .slice none 0 0] 44)).alloc (.cells #[.slice (some ⟨w.heap.size, 0, none⟩) 2 2, .int .i64 3, .int .i64 0, .int .i64 0, .int .i64 0] 41)).alloc (.cells #[.string ⟨#[109, 97, 105, 110]⟩, .int .i64 0, .int .i64 1, .slice (some ⟨w.heap.size + 1, 0, none⟩) 1 1] 47)).heap[w.heap.size + 1 + 1]? = some (.cells #[.string ⟨#[109, 97, 105, 110]⟩, .int .i64 0, .int .i64 1, .slice (some ⟨w.heap.size + 1, 0, none⟩) 1 1] 47) := by have h_ := blk_new ((w.alloc (.cells #[.int .i64 8, .int .i64 0, .int .i64 0, .int .i64 (-1), .int .i64 (-1), .int .i32 0, .string ⟨#[]⟩, .slice none 0 0, .int .i64 9, .int .i64 0, .int .i64 (-1), .int .i64 0, .int .i64 (-1), .int .i32 0, .string ⟨#[]⟩, .slice none 0 0] 44)).alloc (.cells #[.slice (some ⟨w.heap.size, 0, none⟩) 2 2, .int .i64 3, .int .i64 0, .int .i64 0, .int .i64 0] 41)) (.cells #[.string ⟨#[109, 97, 105, 110]⟩, .int .i64 0, .int .i64 1, .slice (some ⟨w.heap.size + 1, 0, none⟩) 1 1] 47); simpa using h_
  have h4 : ((((w.alloc (.cells #[.int .i64 8, .int .i64 0, .int .i64 0, .int .i64 (-1), .int .i64 (-1), .int .i32 0, .string ⟨#[]⟩, .slice none 0 0, .int .i64 9, .int .i64 0, .int .i64 (-1), .int .i64 0, .int .i64 (-1), .int .i32 0, .string ⟨#[]⟩, .slice none 0 0] 44)).alloc (.cells #[.slice (some ⟨w.heap.size, 0, none⟩) 2 2, .int .i64 3, .int .i64 0, .int .i64 0, .int .i64 0] 41)).alloc (.cells #[.string ⟨#[109, 97, 105, 110]⟩, .int .i64 0, .int .i64 1, .slice (some ⟨w.heap.size + 1, 0, none⟩) 1 1] 47)).alloc (.cells #[.slice none 0 0, .slice (some ⟨w.heap.size + 1 + 1, 0, none⟩) 1 1] 25)).heap[w.heap.size + 1 + 1 + 1]? = some (.cells #[.slice none 0 0, .slice (some ⟨w.heap.size + 1 + 1, 0, none⟩) 1 1] 25) := by have h_ := blk_new (((w.alloc (.cells #[.int .i64 8, .int .i64 0, .int .i64 0, .int .i64 (-1), .int .i64 (-1), .int .i32 0, .string ⟨#[]⟩, .slice none 0 0, .int .i64 9, .int .i64 0, .int .i64 (-1), .int .i64 0, .int .i64 (-1), .int .i32 0, .string ⟨#[]⟩, .slice none 0 0] 44)).alloc (.cells #[.slice (some ⟨w.heap.size, 0, none⟩) 2 2, .int .i64 3, .int .i64 0, .int .i64 0, .int .i64 0] 41)).alloc (.cells #[.string ⟨#[109, 97, 105, 110]⟩, .int .i64 0, .int .i64 1, .slice (some ⟨w.heap.size + 1, 0, none⟩) 1 1] 47)) (.cells #[.slice none 0 0, .slice (some ⟨w.heap.size + 1 + 1, 0, none⟩) 1 1] 25); simpa using h_
  have h5 : (livesW w).heap[w.heap.size + 1 + 1 + 1 + 1]? = some (.cells #[.int .i32 5] 21) := by have h_ := blk_new ((((w.alloc (.cells #[.int .i64 8, .int .i64 0, .int .i64 0, .int .i64 (-1), .int .i64 (-1), .int .i32 0, .string ⟨#[]⟩, .slice none 0 0, .int .i64 9, .int .i64 0, .int .i64 (-1), .int .i64 0, .int .i64 (-1), .int .i32 0, .string ⟨#[]⟩, .slice none 0 0] 44)).alloc (.cells #[.slice (some ⟨w.heap.size, 0, none⟩) 2 2, .int .i64 3, .int .i64 0, .int .i64 0, .int .i64 0] 41)).alloc (.cells #[.string ⟨#[109, 97, 105, 110]⟩, .int .i64 0, .int .i64 1, .slice (some ⟨w.heap.size + 1, 0, none⟩) 1 1] 47)).alloc (.cells #[.slice none 0 0, .slice (some ⟨w.heap.size + 1 + 1, 0, none⟩) 1 1] 25)) (.cells #[.int .i32 5] 21); unfold livesW; simpa using h_
  have b1 : (livesW w).heap[w.heap.size]? = some (.cells #[.int .i64 8, .int .i64 0, .int .i64 0, .int .i64 (-1), .int .i64 (-1), .int .i32 0, .string ⟨#[]⟩, .slice none 0 0, .int .i64 9, .int .i64 0, .int .i64 (-1), .int .i64 0, .int .i64 (-1), .int .i32 0, .string ⟨#[]⟩, .slice none 0 0] 44) := blk_alloc (blk_alloc (blk_alloc (blk_alloc h1 _) _) _) _
  have b2 : (livesW w).heap[w.heap.size + 1]? = some (.cells #[.slice (some ⟨w.heap.size, 0, none⟩) 2 2, .int .i64 3, .int .i64 0, .int .i64 0, .int .i64 0] 41) := blk_alloc (blk_alloc (blk_alloc h2 _) _) _
  have b3 : (livesW w).heap[w.heap.size + 1 + 1]? = some (.cells #[.string ⟨#[109, 97, 105, 110]⟩, .int .i64 0, .int .i64 1, .slice (some ⟨w.heap.size + 1, 0, none⟩) 1 1] 47) := blk_alloc (blk_alloc h3 _) _
  have b4 : (livesW w).heap[w.heap.size + 1 + 1 + 1]? = some (.cells #[.slice none 0 0, .slice (some ⟨w.heap.size + 1 + 1, 0, none⟩) 1 1] 25) := blk_alloc h4 _
  refine ⟨below_alloc (below_alloc (below_alloc (below_alloc (below_alloc (Below.refl _ _) _) _) _) _) _, lives_row _ _ _ _ b1 b2 b3, ?_, b4⟩
  exact C_block h5 [5] [[.int .i32 5]] (by decide) ⟨rfl, trivial⟩ rfl
set_option maxHeartbeats 4000000 in
set_option maxRecDepth 100000 in
theorem lives_calls (w : World) : Calls Try.prog 8 #[] w fun e w' => e = .returned (.bool true) ∧ Below w.heap.size w w' := by
  obtain ⟨hB, hF, hI, hm⟩ := livesW_facts w
  have HB := Aside0.mk hB
  have HF := Aside0.mk hF
  have HI := Aside0.mk hI
  have HM := Aside0.mk hm
  clear hB hF hI hm
  go_enter Try.func8, Try.ntmps8
  go_wp2_with (first
    | (go_at_call 10; (with_reducible refine (trace_fL ⟨w.heap.size + 1 + 1, 0, none⟩ ⟨w.heap.size + 1 + 1 + 1 + 1, 0, none⟩ (livesW w) HF.out HI.out).mono ?_)
       rintro e w5 ⟨D, c, rfl, hC, hB5⟩
       have HC5 := Aside0.mk hC
       have HB5 := Aside0.mk (below_step HB.out hB5)
       have HF5 := Aside0.mk (Kd.C_below HF.out hB5)
       have hm5 := blk_below HM.out hB5
       have HM5 := Aside0.mk hm5
       have m0 := (blk_cell hm5 0).trans rfl
       have m1 := (blk_cell hm5 1).trans rfl
       clear hC hB5 hm5)
    | ((with_reducible refine gate_dst (N := 2) rfl ?_)
       refine box_event rfl (N := 2) rfl (cs := #[.int .i64 0, .int .i32 0, .slice none 0 0, .int .i64 0, .int .i64 0]) (t := 32) ?hr ?_
       case hr => first | (go_simp; done) | (go_simp; rfl)
       intro gx hg w1x hbox hb; have hz0 : w1x.cell? ⟨gx, 0, none⟩ = some (.int .i64 0) := (blk_cell hbox 0).trans rfl; have hf0 := blk_frozen hbox 0; have hz1 : w1x.cell? ⟨gx, 1, none⟩ = some (.int .i32 0) := (blk_cell hbox 1).trans rfl; have hf1 := blk_frozen hbox 1; have hz2 : w1x.cell? ⟨gx, 2, none⟩ = some (.slice none 0 0) := (blk_cell hbox 2).trans rfl; have hf2 := blk_frozen hbox 2; have hz3 : w1x.cell? ⟨gx, 3, none⟩ = some (.int .i64 0) := (blk_cell hbox 3).trans rfl; have hf3 := blk_frozen hbox 3; have hz4 : w1x.cell? ⟨gx, 4, none⟩ = some (.int .i64 0) := (blk_cell hbox 4).trans rfl; have hf4 := blk_frozen hbox 4
       have HG := Aside0.mk (Nat.le_of_eq hg.symm)
       clear hg)
    | ((with_reducible refine gate_store (t := 32) (p := 2) rfl ?_)
       refine store_event (w1 := (((((w1x.setCell ⟨gx, 0, none⟩ (.int .i64 1)).setCell ⟨gx, 1, none⟩ (.int .i32 5)).setCell ⟨gx, 2, none⟩ (.slice D 1 c)).setCell ⟨gx, 3, none⟩ (.int .i64 3)).setCell ⟨gx, 4, none⟩ (.int .i64 1))) rfl (t := 32) (p := 2) rfl rfl ?hr ?_
       case hr => first | (go_simp; done) | (go_simp; rfl)
       intro wx hw
       have hcb := hw ▸ fill5 (g := gx) hbox
       have hbl := hw ▸ fillB5 (g := gx) hb HG.out
       have HBX := Aside0.mk (below_step HB5.out hbl)
       have HFX := Aside0.mk (Kd.C_below HF5.out hbl)
       have HCX := Aside0.mk (Kd.C_below HC5.out hbl)
       have hmx := blk_below HM5.out hbl
       have HOX := Aside0.mk hcb
       have m0 := (blk_cell hmx 0).trans rfl
       have m1 := (blk_cell hmx 1).trans rfl
       clear hmx hcb hbl hw hbox hb hz0 hf0 hz1 hf1 hz2 hf2 hz3 hf3 hz4 hf4)
    | (go_at_call 15; (with_reducible refine (may_fL (some ⟨w.heap.size + 1 + 1, 0, none⟩) 1 _ HFX.out (Nat.le_refl 1)).mono ?_)
       rintro e w7 ⟨rfl, hB7⟩
       have HB7 := Aside0.mk (below_step HBX.out hB7)
       have ho7 := blk_below HOX.out hB7
       have y0 := (blk_cell ho7 0).trans rfl
       have y1 := (blk_cell ho7 1).trans rfl
       have y2 := (blk_cell ho7 2).trans rfl
       have y3 := (blk_cell ho7 3).trans rfl
       have y4 := (blk_cell ho7 4).trans rfl
       obtain ⟨ad, hA, hcell⟩ := Kd.at_int (Kd.C_below HCX.out hB7) (0 : Int) (by decide) (by decide)
       rw [show rd [5] (0 : Int) = 5 from rfl, show ((0 : Int)).toNat = 0 from rfl] at hcell
       have hcell2 : w7.cell? ad = some (.int .i32 5) := hcell
       subst hA
       clear ho7 hB7)
    | fail)
  go_ret
  exact ⟨rfl, HB7.out⟩
end Go.Proofs.Ytabkinlpbefjgaa.L

