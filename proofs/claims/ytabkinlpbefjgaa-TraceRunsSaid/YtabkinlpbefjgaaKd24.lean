/- Texts of this seat that a claim bears, put together by this session's own program shake.py: TrY, TrZm, TrZn, TrZo. -/
import Derived.Test.YtabkinlpbefjgaaKps
import Derived.Test.YtabkinlpbefjgaaKd23
namespace Go.Proofs.Ytabkinlpbefjgaa.L
open Go.RowKit Go.Proofs.Ytabkinlpbefjgaa.X Go.Proofs.YtabkinlpbefjgaaW.PrintWords Go.Proofs.YtabkinlpbefjgaaW.PrintLast Go.Proofs.YtabkinlpbefjgaaW.PrintMore
attribute [local go_sem] max2_int min2_int max_two min_two max_three min_three max_four min_four   -- for this text's walks alone
set_option linter.unusedVariables false
set_option linter.unusedSimpArgs false
open Go.Proofs.Ytabkinlpbefjgaa.Pure
def Keeps (X : Nat → Prop) (W : World) (A : Option Addr) (xs : List Int) : Prop := ∀ W' : World, (∀ k, k < W.heap.size → ¬ X k → W'.heap[k]? = W.heap[k]?) → (Kd.int .i32).C W' A xs.length xs
theorem Keeps.now {X : Nat → Prop} {W : World} {A : Option Addr} {xs : List Int} (h : Keeps X W A xs) : (Kd.int .i32).C W A xs.length xs := h W (fun _ _ _ => rfl)
theorem Keeps.mono {X Y : Nat → Prop} {W : World} {A : Option Addr} {xs : List Int} (h : Keeps X W A xs) (hX : ∀ k, Y k → X k) : Keeps Y W A xs := fun W' hW => h W' (fun k hk hn => hW k hk (fun hy => hn (hX k hy)))
theorem Keeps.step {X Y : Nat → Prop} {W W1 : World} {A : Option Addr} {xs : List Int} (h : Keeps X W A xs) (hb : Below W.heap.size W W1) (hX : ∀ k, Y k → X k ∨ W.heap.size ≤ k) : Keeps Y W1 A xs := fun W' hW => h W' (fun k hk hn => (hW k (Nat.lt_of_lt_of_le hk hb.size) (fun hy => (hX k hy).elim hn (fun h2 => absurd hk (Nat.not_lt_of_le h2)))).trans (hb.block k hk))
def TracePost (F : List S47) (GS : List S57) (inp : List Int) (fuel : Int) (w : World) (e : Ending) (w' : World) : Prop :=
  ∃ en v G A c, runT F GS inp fuel = .fin en v G ∧ e = .returned (.agg #[.int .i64 en, .int .i32 v, .slice A G.tr.length c, .int .i64 (G.st : Int), .int .i64 (G.rd : Int)]) ∧ G.tr.length ≤ c ∧ Keeps (fun k => k < w.heap.size) w' A G.tr ∧ Below w.heap.size w w'
def mv0 : MV := ⟨.slice none 0 0, 0, 0, .slice none 0 0, 0, 0⟩
structure Pre (w W : World) (pb rs mb : Nat) (E : Env) (ps : Array Value) : Prop where
  below : Below w.heap.size w W
  pbb : W.heap[pb]? = some (.cells ps 25 (0, 0))
  rsb : W.heap[rs]? = some (.cells #[.int .i64 0, .int .i32 0, .slice none 0 0, .int .i64 0, .int .i64 0] 32 (0, 0))
  mbb : W.heap[mb]? = some (.cells (mC E mv0) 54 (0, 0))
theorem Pre.keep {w W W1 : World} {pb rs mb : Nat} {E : Env} {ps : Array Value} {S : Nat → Prop} (h : Pre w W pb rs mb E ps) (ht : Tr S W W1) (h1 : ¬ S pb) (h2 : ¬ S rs) (h3 : ¬ S mb) (h4 : ∀ k, S k → w.heap.size ≤ k) : Pre w W1 pb rs mb E ps :=
  ⟨h.below.trans (ht.to_below h.below.size h4), ht.blk h.pbb h1, ht.blk h.rsb h2, ht.blk h.mbb h3⟩
def keyF (V : Addr) (F : List S47) (k : Nat) (s : ByteArray) (v : Value) : Prop := ∃ j, j < k ∧ s = (fnOf F j).f0 ∧ v = .pointer (some (V.add (j * 4)))
theorem keyF_step {A : Addr} {F : List S47} {GS : List S57} (hM : OkMid F GS) {k : Nat} (hk : k < F.length) {s : ByteArray} {v : Value} (h : keyF A F (k + 1) s v) : if s = (fnOf F k).f0 then v = .pointer (some (A.add (k * 4))) else keyF A F k s v := by
  obtain ⟨j, hj, hs, hv⟩ := h
  by_cases e : j = k
  · subst e
    rw [if_pos hs]; exact hv
  · have h1 := hM.first j (by omega)
    have h2 := hM.first k hk
    rw [if_neg (fun e2 => e (by rw [← h1, ← hs, e2, h2]))]
    exact ⟨j, by omega, hs, hv⟩
def keyG (bs : List Nat) (GS : List S57) (k : Nat) (s : ByteArray) (v : Value) : Prop := ∃ j, j < k ∧ s = (GS.getD j z57).f0 ∧ v = .slice (some ⟨bs.getD j 0, 0, none⟩) (wsize (GS.getD j z57)) (wsize (GS.getD j z57))
theorem keyG_step {F : List S47} {GS : List S57} (hM : OkMid F GS) {bs : List Nat} {k b : Nat} (hb : bs.length = k) (hk : k < GS.length) {s : ByteArray} {v : Value} (h : keyG (bs ++ [b]) GS (k + 1) s v) : if s = (GS.getD k z57).f0 then v = .slice (some ⟨b, 0, none⟩) (wsize (GS.getD k z57)) (wsize (GS.getD k z57)) else keyG bs GS k s v := by
  obtain ⟨j, hj, hs, hv⟩ := h
  by_cases e : j = k
  · subst e
    rw [if_pos hs, hv]
    rw [List.getD_eq_getElem?_getD (l := bs ++ [b]), List.getElem?_append_right (by omega), hb, Nat.sub_self]
    rfl
  · have h1 := hM.gfirst j (by omega)
    have h2 := hM.gfirst k hk
    rw [if_neg (fun e2 => e (by rw [← h1, ← hs, e2, h2]))]
    refine ⟨j, by omega, hs, ?_⟩
    rw [hv, List.getD_eq_getElem?_getD (l := bs ++ [b]), List.getElem?_append_left (by omega), ← List.getD_eq_getElem?_getD]
structure Rows_ (W : World) (GS : List S57) (m : Nat) (bs : List Nat) : Prop where
  at_ : ∀ j b, bs[j]? = some b → m < b ∧ W.heap[b]? = some (.cells (row32 (List.replicate (wsize (GS.getD j z57)) 0)) 21 (0, 0))
  nodup : bs.Nodup
theorem Rows_.keep {W W1 : World} {GS : List S57} {m : Nat} {bs : List Nat} {S : Nat → Prop} (h : Rows_ W GS m bs) (ht : Tr S W W1) (hS : ∀ k, S k → k ≤ m ∨ W.heap.size ≤ k) : Rows_ W1 GS m bs :=
  ⟨fun j b hj => ⟨(h.at_ j b hj).1, ht.blk (h.at_ j b hj).2 (fun hs => by have h1 := (h.at_ j b hj).1; have h2 := blk_lt (h.at_ j b hj).2; rcases hS b hs with h3 | h3 <;> omega)⟩, h.nodup⟩
theorem Rows_.snoc {W : World} {GS : List S57} {m : Nat} {bs : List Nat} {b : Nat} (h : Rows_ W GS m bs) (hb : m < b) (hn : b ∉ bs) (hr : W.heap[b]? = some (.cells (row32 (List.replicate (wsize (GS.getD bs.length z57)) 0)) 21 (0, 0))) : Rows_ W GS m (bs ++ [b]) := by
  refine ⟨fun j c hj => ?_, ?_⟩
  · rcases Nat.lt_or_ge j bs.length with h1 | h1
    · rw [List.getElem?_append_left h1] at hj
      exact h.at_ j c hj
    · have h2 := (List.getElem?_eq_some_iff.1 hj).1
      rw [List.length_append, List.length_singleton] at h2
      have h3 : j = bs.length := by omega
      subst h3
      rw [List.getElem?_append_right (Nat.le_refl _), Nat.sub_self] at hj
      obtain rfl : b = c := by simpa using hj
      exact ⟨hb, hr⟩
  · rw [List.nodup_append]
    exact ⟨h.nodup, by simp, fun x hx y hy e => hn (by simp at hy; rw [← hy, ← e]; exact hx)⟩
def res0 : Array Value := #[.int .i64 0, .int .i32 0, .slice none 0 0, .int .i64 0, .int .i64 0]
theorem wdB_keys : ∀ (bs : List Nat) (ws : List (List Int)), bs.length = ws.length → (wdB bs ws).map (·.1) = bs
  | [], [], _ => rfl
  | [], _ :: _, h => by simp at h
  | _ :: _, [], h => by simp at h
  | b :: bs, w :: ws, h => by simp only [wdB, List.map_cons, wdB_keys bs ws (by simpa using h)]
theorem wdB_mem : ∀ (bs : List Nat) (ws : List (List Int)) (b : Bk), b ∈ wdB bs ws → ∃ (j : Nat) (l : List Int), bs[j]? = some b.1 ∧ ws[j]? = some l ∧ b.2.1 = row32 l ∧ b.2.2 = 21
  | [], _, _, h => by simp [wdB] at h
  | _ :: _, [], _, h => by simp [wdB] at h
  | c :: bs, w :: ws, b, h => by
    simp only [wdB, List.mem_cons] at h
    rcases h with rfl | h
    · exact ⟨0, w, rfl, rfl, rfl, rfl⟩
    · obtain ⟨j, l, h1, h2, h3, h4⟩ := wdB_mem bs ws b h
      exact ⟨j + 1, l, by simpa using h1, by simpa using h2, h3, h4⟩
theorem start_ok (GS : List S57) : OkGl GS (Gl.start GS) := by
  refine ⟨by simp [Gl.start, Function.comp_def], fun l hl v hv => ?_⟩
  obtain ⟨g, _, rfl⟩ := List.mem_map.1 hl
  rw [(List.mem_replicate.1 hv).2]
  exact W32.zero
section
variable {F : List S47} {GS : List S57} {inp : List Int} {fuel : Int} {w W : World} {A : Addr} {AI : Option Addr} {cI pb rs fm wm mb : Nat} {ps : Array Value} {bs : List Nat}
theorem start_inv (hO : w.heap.size ≤ pb ∧ pb < rs ∧ rs < fm ∧ fm < wm ∧ wm < mb) (hP : Pre w W pb rs mb ⟨fm, wm, .slice AI inp.length cI, fuel⟩ ps) (hF : Holds W fm F.length (keyF A F F.length)) (hG : Holds W wm GS.length (keyG bs GS GS.length)) (hb : bs.length = GS.length) (hR : Rows_ W GS mb bs)
    (hnF : ∀ f ∈ F, f.f0.size ≤ 64) (hnG : ∀ g ∈ GS, g.f0.size ≤ 64) : Inv ⟨w, mb, ⟨fm, wm, .slice AI inp.length cI, fuel⟩, F, GS, A, inp, AI, cI, bs, [(rs, res0, 32)]⟩ W [] (Gl.start GS) := by
  have hws : bs.length = (Gl.start GS).words.length := by simp [Gl.start, hb]
  have hz55 : ∀ W' : World, (zeroValue 55).run Try.prog W' = .ok (.pointer none) W' := fun W' => by kernel_rfl
  have hz26 : ∀ W' : World, (zeroValue 26).run Try.prog W' = .ok (.slice none 0 0) W' := fun W' => by kernel_rfl
  have hkeys : keysOf ((mb, mC ⟨fm, wm, .slice AI inp.length cI, fuel⟩ mv0, 54) :: (wdB bs (Gl.start GS).words ++ [(rs, res0, 32)])) = mb :: (bs ++ [rs]) := by
    simp [keysOf, wdB_keys bs _ hws]
  have hbs : ∀ k ∈ bs, mb < k := fun k hk => by
    obtain ⟨j, hj⟩ := List.getElem?_of_mem hk
    exact (hR.at_ j k hj).1
  refine ⟨.slice none 0 0, .slice none 0 0, ?_⟩
  show Hp _ W ((mb, mC ⟨fm, wm, .slice AI inp.length cI, fuel⟩ mv0, 54) :: (wdB bs (Gl.start GS).words ++ [(rs, res0, 32)])) _ _ [] []
  refine ⟨hP.below, ⟨fun b hb2 => ?_, ?_⟩, ⟨?_, hF.lt, show w.heap.size ≤ fm by omega⟩, ⟨?_, hG.lt, show w.heap.size ≤ wm by omega⟩, Kd.R_nil _ _ _ _ _, Kd.R_nil _ _ _ _ _, fun k hk => by simp [Value.ownBlock] at hk, fun k hk => by simp [Value.ownBlock] at hk, fun k hk => by simp [Value.ownBlock] at hk, fun k hk => ?_, fun k hk => ?_⟩
  · rcases List.mem_cons.1 hb2 with rfl | hb2
    · exact ⟨show w.heap.size ≤ mb by omega, hP.mbb⟩
    rcases List.mem_append.1 hb2 with hb2 | hb2
    · obtain ⟨j, l, h1, h2, h3, h4⟩ := wdB_mem _ _ _ hb2
      have h5 := hR.at_ j _ h1
      refine ⟨show w.heap.size ≤ b.1 by omega, ?_⟩
      rw [h3, h4, h5.2]
      have h6 : j < GS.length := by rw [← hb]; exact (List.getElem?_eq_some_iff.1 h1).1
      have h7 : l = List.replicate (wsize (GS.getD j z57)) 0 := by
        have : (Gl.start GS).words[j]? = some (List.replicate (wsize (GS.getD j z57)) 0) := by
          rw [List.getD_eq_getElem?_getD, List.getElem?_eq_getElem h6]
          simp [Gl.start, h6, wsize]
        rw [h2] at this
        exact Option.some.inj this
      rw [h7]
    · rw [List.mem_singleton.1 hb2]
      exact ⟨show w.heap.size ≤ rs by omega, hP.rsb⟩
  · show (keysOf _).Nodup
    rw [hkeys, List.nodup_cons, List.nodup_append]
    refine ⟨fun hm => ?_, hR.nodup, by simp, fun x hx y hy e => ?_⟩
    · rcases List.mem_append.1 hm with h1 | h1
      · have := hbs _ h1; omega
      · simp at h1; omega
    · have := hbs _ hx; simp at hy; omega
  · rw [hkeys]
    show fm ∉ _
    intro hm
    rcases List.mem_cons.1 hm with h1 | h1
    · omega
    rcases List.mem_append.1 h1 with h1 | h1
    · have := hbs _ h1; omega
    · simp at h1; omega
  · rw [hkeys]
    show wm ∉ _
    intro hm
    rcases List.mem_cons.1 hm with h1 | h1
    · omega
    rcases List.mem_append.1 h1 with h1 | h1
    · have := hbs _ h1; omega
    · simp at h1; omega
  · have hs := hnF _ (fnOf_mem hk)
    exact hF.mapAt (t := 50) (e := 55) Try.underlying50 hz55 ⟨k, hk, rfl, rfl⟩ (Nat.le_trans hs (by unfold maxLen; decide))
  · have hs := hnG (GS.getD k z57) (by rw [List.getD_eq_getElem?_getD, List.getElem?_eq_getElem hk]; exact List.getElem_mem hk)
    exact hG.mapAt (t := 51) (e := 26) Try.underlying51 hz26 ⟨k, hk, rfl, rfl⟩ (Nat.le_trans hs (by unfold maxLen; decide))
def RunOut (F : List S47) (GS : List S57) (inp : List Int) (fuel : Int) (w : World) (rs mb : Nat) (E : Env) (w' : World) : Prop :=
  ∃ en v G cv A c, runT F GS inp fuel = .fin en v G ∧ w'.heap[mb]? = some (.cells (mC E ⟨cv, en, v, .slice A G.tr.length c, G.st, G.rd⟩) 54 (0, 0)) ∧ G.tr.length ≤ c ∧ (∀ W', (∀ k, k ≠ rs → w.heap.size ≤ k → k < w'.heap.size → w'.heap[k]? = W'.heap[k]?) → (Kd.int .i32).C W' A G.tr.length G.tr) ∧ w'.heap[rs]? = some (.cells res0 32 (0, 0)) ∧ Below w.heap.size w w'
theorem run_at (hO : w.heap.size ≤ pb ∧ pb < rs ∧ rs < fm ∧ fm < wm ∧ wm < mb) (hP : Pre w W pb rs mb ⟨fm, wm, .slice AI inp.length cI, fuel⟩ ps) (hF : Holds W fm F.length (keyF A F F.length)) (hG : Holds W wm GS.length (keyG bs GS GS.length)) (hb : bs.length = GS.length) (hR : Rows_ W GS mb bs)
    (hnF : ∀ f ∈ F, f.f0.size ≤ 64) (hnG : ∀ g ∈ GS, g.f0.size ≤ 64) (hFC : Kd.C k47 w (some A) F.length F) (hIC : (Kd.int .i32).C w AI inp.length inp) (hM : OkMid F GS) (hw : ∀ v ∈ inp, W32 v) (hlen : inp.length ≤ 1000000) (hfuel : fuel ≤ 100000) :
    Calls Try.prog 17 #[.pointer (some ⟨mb, 0, none⟩)] W fun e w' => e = .returned (.tuple #[]) ∧ RunOut F GS inp fuel w rs mb ⟨fm, wm, .slice AI inp.length cI, fuel⟩ w' := by
  have hI := start_inv (A := A) (inp := inp) hO hP hF hG hb hR hnF hnG
  have hI2 := Inv.box hI #[.pointer (some ⟨mb, 0, none⟩)] 49
  have hV : RvOk ⟨w, mb, ⟨fm, wm, .slice AI inp.length cI, fuel⟩, F, GS, A, inp, AI, cI, bs, [(rs, res0, 32)]⟩ := ⟨rfl, hIC, hFC, hM, hw, hlen, hb⟩
  refine (run_calls (hV.with _) W (by simp [Rv.with]) hI2 (start_ok GS) hfuel).mono ?_
  rintro e w' ⟨he, en, v, G, ks, hr, cv, tv, h⟩
  refine ⟨he, ?_⟩
  obtain ⟨At, c, htv⟩ := Kd.R_slice h.trace
  have hrd := Kd.R_reads h.trace
  have hmb := h.at List.mem_cons_self
  have hrs := h.at (b := (rs, res0, 32)) (by unfold Rv.LL; simp [Rv.with])
  have hnr : tv.ownBlock ≠ some rs := fun e2 => (h.tvk _ e2).2.2 (List.mem_map_of_mem (f := fun b : Bk => b.1) (a := (rs, res0, 32)) (by unfold Rv.LL; simp [Rv.with]))
  subst htv
  obtain ⟨A2, c2, hA2, hl2, hC2⟩ := hrd
  injection hA2 with hA3 _ hc3
  subst hA3 hc3
  refine ⟨en, v, G, cv, At, c, hr, hmb, hl2, fun W' hW => ?_, hrs, h.below⟩
  have h5 := Kd.R_step (Kd.R_bound (h.trace_in (fun k => (Value.slice At G.tr.length c).ownBlock = some k) (fun _ h => h))) (w1 := W') (fun k ho hlt => (hW k (fun e3 => hnr (e3 ▸ ho.1)) ho.2.1 hlt).symm)
  obtain ⟨A4, c4, hA4, _, hC4⟩ := Kd.R_reads h5
  injection hA4 with hA5
  subst hA5
  exact hC4
end
set_option maxHeartbeats 8000000 in
set_option maxRecDepth 100000 in
theorem trace_calls (F : List S47) (GS : List S57) (inp : List Int) (fuel : Int) (w : World) (A : Addr) (cF : Nat) (AG : Option Addr) (cG : Nat) (AI : Option Addr) (cI : Nat) (hF : Kd.C k47 w (some A) F.length F) (hG : Kd.C k57 w AG GS.length GS) (hI : (Kd.int .i32).C w AI inp.length inp)
    (hcF : F.length ≤ cF) (hcG : GS.length ≤ cG) (hcI : inp.length ≤ cI) (hM : OkMid F GS) (hw : ∀ v ∈ inp, W32 v) (hnF : ∀ f ∈ F, f.f0.size ≤ 64) (hnG : ∀ g ∈ GS, g.f0.size ≤ 64) (hlen : inp.length ≤ 1000000) (hfuel : fuel ≤ 100000) :
    Calls Try.prog 10 #[.agg #[.slice AG GS.length cG, .slice (some A) F.length cF], .slice AI inp.length cI, .int .i64 fuel] w (TracePost F GS inp fuel w) := by
  have hmm := @run_makeMap Try.prog
  have I32 : Aside0 ((Try.prog.info? 32).map (·.size) = some 5) := ⟨by kernel_rfl⟩
  have HF := Aside0.mk hF
  have HG := Aside0.mk hG
  have HI := Aside0.mk hI
  have HM := Aside0.mk hM
  have HW := Aside0.mk hw
  have HNF := Aside0.mk hnF
  have HNG := Aside0.mk hnG
  have hFew := hM.few
  clear hF hG hI hM hw hnF hnG
  go_enter Try.func10, Try.ntmps10
  go_wp2
  have hP : Pre w (((((w.alloc (.cells #[.slice AG GS.length cG, .slice (some A) F.length cF] 25)).alloc (.cells #[.int .i64 0, .int .i32 0, .slice none 0 0, .int .i64 0, .int .i64 0] 32)).alloc (.map #[] 0)).alloc (.map #[] 0)).alloc (.cells (mC ⟨w.heap.size + 1 + 1, w.heap.size + 1 + 1 + 1, .slice AI inp.length cI, fuel⟩ mv0) 54)) w.heap.size (w.heap.size + 1) (w.heap.size + 1 + 1 + 1 + 1) ⟨w.heap.size + 1 + 1, w.heap.size + 1 + 1 + 1, .slice AI inp.length cI, fuel⟩ #[.slice AG GS.length cG, .slice (some A) F.length cF] := by
    refine ⟨below_alloc (below_alloc (below_alloc (below_alloc (below_alloc (Below.refl _ _) _) _) _) _) _, ?_, ?_, ?_⟩
    · exact blk_alloc (blk_alloc (blk_alloc (blk_alloc (blk_new _ _) _) _) _) _
    · exact blk_alloc (blk_alloc (blk_alloc (by have h_ := blk_new (w.alloc (.cells #[.slice AG GS.length cG, .slice (some A) F.length cF] 25)) (.cells #[.int .i64 0, .int .i32 0, .slice none 0 0, .int .i64 0, .int .i64 0] 32); simpa using h_) _) _) _
    · have h_ := blk_new ((((w.alloc (.cells #[.slice AG GS.length cG, .slice (some A) F.length cF] 25)).alloc (.cells #[.int .i64 0, .int .i32 0, .slice none 0 0, .int .i64 0, .int .i64 0] 32)).alloc (.map #[] 0)).alloc (.map #[] 0)) (.cells (mC ⟨w.heap.size + 1 + 1, w.heap.size + 1 + 1 + 1, .slice AI inp.length cI, fuel⟩ mv0) 54)
      simpa using h_
  have hfm : Holds (((((w.alloc (.cells #[.slice AG GS.length cG, .slice (some A) F.length cF] 25)).alloc (.cells #[.int .i64 0, .int .i32 0, .slice none 0 0, .int .i64 0, .int .i64 0] 32)).alloc (.map #[] 0)).alloc (.map #[] 0)).alloc (.cells (mC ⟨w.heap.size + 1 + 1, w.heap.size + 1 + 1 + 1, .slice AI inp.length cI, fuel⟩ mv0) 54)) (w.heap.size + 1 + 1) 0 (fun _ _ => False) := by
    have h_ := Holds.made ((w.alloc (.cells #[.slice AG GS.length cG, .slice (some A) F.length cF] 25)).alloc (.cells #[.int .i64 0, .int .i32 0, .slice none 0 0, .int .i64 0, .int .i64 0] 32))
    refine (Holds.keep (b := w.heap.size + 1 + 1) (by simpa using h_) ?_)
    exact (Below.heap_alloc _ _ _ (by simp)).trans (Below.heap_alloc _ _ _ (by simp))
  have hwm : Holds (((((w.alloc (.cells #[.slice AG GS.length cG, .slice (some A) F.length cF] 25)).alloc (.cells #[.int .i64 0, .int .i32 0, .slice none 0 0, .int .i64 0, .int .i64 0] 32)).alloc (.map #[] 0)).alloc (.map #[] 0)).alloc (.cells (mC ⟨w.heap.size + 1 + 1, w.heap.size + 1 + 1 + 1, .slice AI inp.length cI, fuel⟩ mv0) 54)) (w.heap.size + 1 + 1 + 1) 0 (fun _ _ => False) := by
    have h_ := Holds.made (((w.alloc (.cells #[.slice AG GS.length cG, .slice (some A) F.length cF] 25)).alloc (.cells #[.int .i64 0, .int .i32 0, .slice none 0 0, .int .i64 0, .int .i64 0] 32)).alloc (.map #[] 0))
    refine (Holds.keep (b := w.heap.size + 1 + 1 + 1) (by simpa using h_) ?_)
    exact Below.heap_alloc _ _ _ (by simp)
  have hsz : w.heap.size + 5 ≤ (((((w.alloc (.cells #[.slice AG GS.length cG, .slice (some A) F.length cF] 25)).alloc (.cells #[.int .i64 0, .int .i32 0, .slice none 0 0, .int .i64 0, .int .i64 0] 32)).alloc (.map #[] 0)).alloc (.map #[] 0)).alloc (.cells (mC ⟨w.heap.size + 1 + 1, w.heap.size + 1 + 1 + 1, .slice AI inp.length cI, fuel⟩ mv0) 54)).heap.size := by simp
  change Code.wp _ _ _ _ (((((w.alloc (.cells #[.slice AG GS.length cG, .slice (some A) F.length cF] 25)).alloc (.cells #[.int .i64 0, .int .i32 0, .slice none 0 0, .int .i64 0, .int .i64 0] 32)).alloc (.map #[] 0)).alloc (.map #[] 0)).alloc (.cells (mC ⟨w.heap.size + 1 + 1, w.heap.size + 1 + 1 + 1, .slice AI inp.length cI, fuel⟩ mv0) 54))
  generalize ((((w.alloc (.cells #[.slice AG GS.length cG, .slice (some A) F.length cF] 25)).alloc (.cells #[.int .i64 0, .int .i32 0, .slice none 0 0, .int .i64 0, .int .i64 0] 32)).alloc (.map #[] 0)).alloc (.map #[] 0)).alloc (.cells (mC ⟨w.heap.size + 1 + 1, w.heap.size + 1 + 1 + 1, .slice AI inp.length cI, fuel⟩ mv0) 54) = w1 at hP hfm hwm hsz ⊢
  obtain ⟨mb, hmb⟩ : ∃ mb, w.heap.size + 1 + 1 + 1 + 1 = mb := ⟨_, rfl⟩
  obtain ⟨wm, hwmE⟩ : ∃ wm, w.heap.size + 1 + 1 + 1 = wm := ⟨_, rfl⟩
  obtain ⟨fm, hfmE⟩ : ∃ fm, w.heap.size + 1 + 1 = fm := ⟨_, rfl⟩
  obtain ⟨rs, hrsE⟩ : ∃ rs, w.heap.size + 1 = rs := ⟨_, rfl⟩
  obtain ⟨pb, hpbE⟩ : ∃ pb, w.heap.size = pb := ⟨_, rfl⟩
  have hord : w.heap.size ≤ pb ∧ pb < rs ∧ rs < fm ∧ fm < wm ∧ wm < mb ∧ mb < w1.heap.size := by omega
  rw [hmb, hwmE, hfmE, hrsE, hpbE] at hP
  rw [hfmE] at hfm
  rw [hwmE] at hwm
  rw [hmb, hwmE, hfmE, hrsE, hpbE]
  clear hmb hwmE hfmE hrsE hpbE hsz
  have HP := Aside0.mk hP
  have HFM := Aside0.mk hfm
  have HWM := Aside0.mk hwm
  have HO := Aside0.mk hord
  have HO5 : Aside0 (w.heap.size ≤ pb ∧ pb < rs ∧ rs < fm ∧ fm < wm ∧ wm < mb) := ⟨by omega⟩
  clear hP hfm hwm hord hmm
  go_loopg [20] (F.length) (fun kq v wr => ∃ k : Nat, Aside0 (k + kq = F.length) ∧ v = .int .i64 (k : Int) ∧ Aside0 (Pre w wr pb rs mb ⟨fm, wm, .slice AI inp.length cI, fuel⟩ #[.slice AG GS.length cG, .slice (some A) F.length cF]) ∧ Aside0 (Holds wr fm k (keyF A F k)) ∧ Aside0 (Holds wr wm 0 (fun _ _ => False)))
  case atStart => exact ⟨0, ⟨by omega⟩, rfl, HP, ⟨by obtain ⟨D, h1, h2, h3⟩ := HFM.out; exact ⟨D, h1, h2, fun s v ⟨j, hj, _⟩ => absurd hj (by omega)⟩⟩, HWM⟩
  case round =>
    obtain ⟨k, HK, rfl, HPR, HFR, HWR⟩ := hrel
    by_cases hlt : k < F.length
    · cases gk with
      | zero => exact absurd HK.out (by omega)
      | succ q1 =>
        have m0 : wr.cell? ⟨mb, 0, none⟩ = some (.map (some fm)) := (blk_cell HPR.out.mbb 0).trans rfl
        have p1 : wr.cell? ⟨pb, 1, none⟩ = some (.slice (some A) F.length cF) := (blk_cell HPR.out.pbb 1).trans rfl
        obtain ⟨ad, A3, c3, had, f0, _⟩ := at_T47 HF.out (k : Int) (by omega) (by omega)
        injection had with had
        subst had
        rw [Int.toNat_natCast, show rd_T47 F (k : Int) = fnOf F k from by show F.getD ((k : Int)).toNat z47 = _; rw [Int.toNat_natCast]; rfl] at f0
        replace f0 := pw_cell_below HPR.out.below f0
        have hmem : fnOf F k ∈ F := fnOf_mem hlt
        have HSZ := Aside0.mk (HNF.out _ hmem)
        clear hmem
        go_wp2
        go_still_tail 14, (by kernel_rfl)
        go_wp2_with (first
          | (at_mapUpdate
             refine wp_mapput rfl (.tmp 26) (.tmp 32) (.tmp 36) 50 55 rfl Try.underlying50 fm k (keyF A F k) (HFR.out.keep rfl) ?hn rfl (fnOf F k).f0 (.pointer (some (A.add (k * 4)))) rfl rfl ?hs ?_
             case hn => omega
             case hs => have h_ := HSZ.out; unfold maxLen; omega
             intro w2 h2_ ht2_
             have HF2 := Aside0.mk h2_
             have HT2 : Aside0 (Tr (one fm) wr w2) := ⟨((Tr.refl (one fm) wr).drew).trans ht2_⟩
             clear h2_ ht2_)
          | fail)
        go_roundg q1
        case measure => omega
        case rel => exact ⟨k + 1, ⟨by have := HK.out; omega⟩, by go_num, ⟨HPR.out.keep (S := one fm) HT2.out (by have := HO.out; show ¬ pb = fm; omega) (by have := HO.out; show ¬ rs = fm; omega) (by have := HO.out; show ¬ mb = fm; omega) (fun q hq => by have := HO.out; have e_ : q = fm := hq; omega)⟩, ⟨by obtain ⟨D, h1, h2, h3⟩ := HF2.out; exact ⟨D, h1, h2, fun s v hsv => h3 s v (keyF_step HM.out hlt hsv)⟩⟩, ⟨HWR.out.keep (HT2.out.keep wm HWR.out.lt (by have := HO.out; show ¬ wm = fm; omega))⟩⟩
    · obtain rfl : k = F.length := by have := HK.out; omega
      have p0 : wr.cell? ⟨pb, 0, none⟩ = some (.slice AG GS.length cG) := (blk_cell HPR.out.pbb 0).trans rfl
      clear HP HFM HWM
      have hszr : mb < wr.heap.size := blk_lt HPR.out.mbb
      go_wp2
      go_loopg [41] (GS.length) (fun kq v wq => ∃ (k : Nat) (bs : List Nat), Aside0 (k + kq = GS.length) ∧ v = .int .i64 (k : Int) ∧ Aside0 (Pre w wq pb rs mb ⟨fm, wm, .slice AI inp.length cI, fuel⟩ #[.slice AG GS.length cG, .slice (some A) F.length cF]) ∧ Aside0 (Holds wq fm F.length (keyF A F F.length)) ∧ Aside0 (Holds wq wm k (keyG bs GS k)) ∧ Aside0 (bs.length = k) ∧ Aside0 (Rows_ wq GS mb bs))
      case atStart => exact ⟨0, [], ⟨by omega⟩, rfl, HPR, HFR, ⟨by obtain ⟨D, h1, h2, h3⟩ := HWR.out; exact ⟨D, h1, h2, fun s v ⟨j, hj, _⟩ => absurd hj (by omega)⟩⟩, ⟨rfl⟩, ⟨⟨fun j b hj => by simp at hj, List.nodup_nil⟩⟩⟩
      case round =>
        obtain ⟨k, bs, HK2, rfl, HP2, HF2, HW2, HBS, HR2⟩ := hrel
        clear HPR HFR HWR
        by_cases hlt : k < GS.length
        · cases gk with
          | zero => exact absurd HK2.out (by omega)
          | succ q1 =>
            obtain ⟨ad, had, g0, g1⟩ := at_T57 HG.out (k : Int) (by omega) (by omega)
            subst had
            rw [Int.toNat_natCast, show rd_T57 GS (k : Int) = GS.getD k z57 from by show GS.getD ((k : Int)).toNat z57 = _; rw [Int.toNat_natCast]] at g0 g1
            replace g0 := pw_cell_below HP2.out.below g0
            replace g1 := pw_cell_below HP2.out.below g1
            obtain ⟨gl, hgl⟩ : ∃ gl, GS.getD k z57 = gl := ⟨_, rfl⟩
            rw [hgl] at g0 g1
            have HGL := Aside0.mk hgl
            have hgm : gl ∈ GS := by rw [← hgl, List.getD_eq_getElem?_getD, List.getElem?_eq_getElem hlt]; exact List.getElem_mem hlt
            have HSZ := Aside0.mk (HNG.out _ hgm)
            have HWN := Aside0.mk (HM.out.size _ hgm)
            clear hgl hgm
            have q1_ : (if gl.f1 < 1 then 1 else gl.f1) = (wsize gl : Int) := by unfold wsize; split <;> omega
            have HQ1 := Aside0.mk q1_
            go_wp2
            have hT1 : Tr nil_ wr (wr.alloc (.cells #[.string gl.f0, .int .i64 gl.f1] 57)) := (Tr.refl nil_ wr).alloc _
            have hb1 := blk_new wr (.cells #[.string gl.f0, .int .i64 gl.f1] 57)
            generalize wr.alloc (.cells #[.string gl.f0, .int .i64 gl.f1] 57) = w2 at hT1 hb1 ⊢
            have c0 : w2.cell? ⟨wr.heap.size, 0, none⟩ = some (.string gl.f0) := (blk_cell hb1 0).trans rfl
            have c1 : w2.cell? ⟨wr.heap.size, 1, none⟩ = some (.int .i64 gl.f1) := (blk_cell hb1 1).trans rfl
            have m1 : w2.cell? ⟨mb, 1, none⟩ = some (.map (some wm)) := hT1.cell ((blk_cell HP2.out.mbb 1).trans rfl) (fun h => h)
            have HT1 := Aside0.mk hT1
            clear hT1 hb1 g0 g1
            refine start_ (n := 11) (S := fun w_ => w_.cell? ⟨mb, 1, none⟩ = some (.map (some wm)) ∧ w_.cell? ⟨wr.heap.size, 0, none⟩ = some (.string gl.f0) ∧ w_.cell? ⟨wr.heap.size, 1, none⟩ = some (.int .i64 gl.f1)) (ds := [10]) #[false, false, false, false, false, false, false, false, false, false, false] (by kernel_rfl) rfl rfl ⟨m1, c0, c1⟩ (fun hHeld => ?_)
            refine pure_ (i := 0) (N := some 45) (v := ?_) (a' := ?_) #[true, false, false, false, false, false, false, false, false, false, false] rfl rfl (by kernel_rfl) (fun _ _ _ h => h) (Or.inl ⟨by rfl, ?_⟩) ?_ ?_
            rotate_left
            · intro w'
              go_simp
              with_reducible rfl
            rotate_left
            · simp only [ps_]
              rfl
            refine pure_ (i := 1) (N := some 46) (v := ?_) (a' := ?_) #[true, true, false, false, false, false, false, false, false, false, false] rfl rfl (by kernel_rfl) (fun _ _ _ h => h) (Or.inl ⟨by rfl, ?_⟩) ?_ ?_
            rotate_left
            · intro w'
              go_simp
              with_reducible rfl
            rotate_left
            · simp only [ps_]
              rfl
            refine pure_ (i := 2) (N := some 47) (v := ?_) (a' := ?_) #[true, true, true, false, false, false, false, false, false, false, false] rfl rfl (by kernel_rfl) (fun _ _ _ h => h) (Or.inl ⟨by rfl, ?_⟩) ?_ ?_
            rotate_left
            · intro w'
              go_simp
              with_reducible rfl
            rotate_left
            · simp only [ps_]
              rfl
            refine take_ (i := 3) (N := some 48) (v := ?_) (a' := ?_) #[true, true, true, true, false, false, false, false, false, false, false] rfl rfl (by kernel_rfl) (fun _ _ _ h => h) (Or.inl ⟨by rfl, ?_⟩) hHeld ?_ ?_
            rotate_left
            · rintro w' ⟨h0_, h1_, h2_⟩
              go_simp
              with_reducible rfl
            rotate_left
            · simp only [ps_]
              rfl
            refine pure_ (i := 4) (N := some 49) (v := ?_) (a' := ?_) #[true, true, true, true, true, false, false, false, false, false, false] rfl rfl (by kernel_rfl) (fun _ _ _ h => h) (Or.inl ⟨by rfl, ?_⟩) ?_ ?_
            rotate_left
            · intro w'
              go_simp
              with_reducible rfl
            rotate_left
            · simp only [ps_]
              rfl
            refine take_ (i := 5) (N := some 50) (v := ?_) (a' := ?_) #[true, true, true, true, true, true, false, false, false, false, false] rfl rfl (by kernel_rfl) (fun _ _ _ h => h) (Or.inl ⟨by rfl, ?_⟩) hHeld ?_ ?_
            rotate_left
            · rintro w' ⟨h0_, h1_, h2_⟩
              go_simp
              with_reducible rfl
            rotate_left
            · simp only [ps_]
              rfl
            refine pure_ (i := 6) (N := some 51) (v := ?_) (a' := ?_) #[true, true, true, true, true, true, true, false, false, false, false] rfl rfl (by kernel_rfl) (fun _ _ _ h => h) (Or.inl ⟨by rfl, ?_⟩) ?_ ?_
            rotate_left
            · intro w'
              go_simp
              with_reducible rfl
            rotate_left
            · simp only [ps_]
              rfl
            refine take_ (i := 7) (N := some 52) (v := ?_) (a' := ?_) #[true, true, true, true, true, true, true, true, false, false, false] rfl rfl (by kernel_rfl) (fun _ _ _ h => h) (Or.inl ⟨by rfl, ?_⟩) hHeld ?_ ?_
            rotate_left
            · rintro w' ⟨h0_, h1_, h2_⟩
              go_simp
              with_reducible rfl
            rotate_left
            · simp only [ps_]
              rfl
            refine pure_ (i := 8) (N := some 53) (v := ?_) (a' := ?_) #[true, true, true, true, true, true, true, true, true, false, false] rfl rfl (by kernel_rfl) (fun _ _ _ h => h) (Or.inl ⟨by rfl, ?_⟩) ?_ ?_
            rotate_left
            · intro w'
              go_simp
              with_reducible rfl
            rotate_left
            · simp only [ps_]
              rfl
            refine one_ (i := 9) (N := some 54) #[true, true, true, true, true, true, true, true, true, true, false] rfl rfl (by kernel_rfl) (by decide) (fun K hK => ?_)
            rw [if_pos (by rfl)]
            refine op_make32 (.tmp 53) (.tmp 53) rfl (wsize gl) rfl rfl (by have h_ := HWN.out; unfold wsize; omega) ?_
            intro w3 h3_ ht3_
            have H3 := Aside0.mk h3_
            have HT3 : Aside0 (Tr nil_ wr w3) := ⟨HT1.out.drew.trans ht3_⟩
            refine hK.out _ _ ⟨ht3_.cell hHeld.1 (fun h => h), ht3_.cell hHeld.2.1 (fun h => h), ht3_.cell hHeld.2.2 (fun h => h)⟩ (fun hHeld => ?_)
            clear h3_ ht3_
            clear hK K
            refine norm_ (a' := ?_) ?_ ?_
            rotate_left
            · show Act.put _ (some 54) _ = _
              simp only [ps_]
              rfl
            refine last_ (i := 10) (N := none) #[true, true, true, true, true, true, true, true, true, true, true] rfl rfl (by kernel_rfl) (by decide) (fun K hK => ?_)
            rw [if_pos (by rfl)]
            refine op_mapput (.tmp 48) (.tmp 50) (.tmp 54) 51 26 rfl Try.underlying51 wm k (keyG bs GS k) (HW2.out.keep (HT3.out.keep wm HW2.out.lt (fun h => h))) (by omega) rfl gl.f0 (.slice (some ⟨w2.heap.size, 0, none⟩) (wsize gl) (wsize gl)) rfl rfl (by have h_ := HSZ.out; unfold maxLen; omega) ?_
            intro w4 h4_ ht4_
            have HW4 := Aside0.mk h4_
            have HT4 := Aside0.mk ht4_
            clear h4_ ht4_
            refine hK.out _ _ ?_
            clear hK K
            refine done_ (by kernel_rfl) ?_
            have HT5 : Aside0 (Tr (one wm) wr w4) := ⟨(HT3.out.mono (fun q hq => hq.elim)).trans HT4.out⟩
            have hb5 : w4.heap[w2.heap.size]? = some (.cells (row32 (List.replicate (wsize gl) 0)) 21 (0, 0)) := HT4.out.blk H3.out (by have h1_ := HT1.out.size; have h2_ := HW2.out.lt; show ¬ w2.heap.size = wm; omega)
            have HB5 := Aside0.mk hb5
            clear hb5 q1_ c0 c1 m1 hHeld
            go_wp2
            go_roundg q1
            case measure => omega
            case rel =>
              have h1_ := HT1.out.size
              have h2_ := HW2.out.lt
              have h3_ := HO.out
              have h4_ := blk_lt HP2.out.mbb
              refine ⟨k + 1, bs ++ [w2.heap.size], ⟨by have := HK2.out; omega⟩, by go_num, ⟨HP2.out.keep (S := one wm) HT5.out (by show ¬ pb = wm; omega) (by show ¬ rs = wm; omega) (by show ¬ mb = wm; omega) (fun q hq => by have e_ : q = wm := hq; omega)⟩, ⟨HF2.out.keep (HT5.out.keep fm HF2.out.lt (by show ¬ fm = wm; omega))⟩, ⟨?_⟩, ⟨by rw [List.length_append, HBS.out]; rfl⟩, ⟨?_⟩⟩
              · obtain ⟨D, g1, g2, g3⟩ := HW4.out
                refine ⟨D, g1, g2, fun s v hsv => g3 s v ?_⟩
                have h5_ := keyG_step HM.out HBS.out hlt hsv
                rw [HGL.out] at h5_
                exact h5_
              · refine (HR2.out.keep HT5.out (fun q hq => .inl (by have e_ : q = wm := hq; omega))).snoc (by omega) (fun hm => ?_) (by rw [HBS.out, HGL.out]; exact HB5.out)
                obtain ⟨j, hj⟩ := List.getElem?_of_mem hm
                have h6_ := blk_lt (HR2.out.at_ j _ hj).2
                omega
        · obtain rfl : k = GS.length := by have := HK2.out; omega
          clear hlt
          go_wp2_with (go_at_call 17; (with_reducible refine (run_at HO5.out HP2.out HF2.out HW2.out HBS.out HR2.out HNF.out HNG.out HF.out HI.out HM.out HW.out hlen hfuel).mono ?_); rintro e w5 ⟨rfl, en, v, G, cv, A2, c2, hr, hmb, hl2, hC2, hrs, hbl⟩; have m5 : w5.cell? ⟨mb, 5, none⟩ = some (.int .i64 en) := (blk_cell hmb 5).trans rfl; have m6 : w5.cell? ⟨mb, 6, none⟩ = some (.int .i32 v) := (blk_cell hmb 6).trans rfl; have m7 : w5.cell? ⟨mb, 7, none⟩ = some (.slice A2 G.tr.length c2) := (blk_cell hmb 7).trans rfl; have m8 : w5.cell? ⟨mb, 8, none⟩ = some (.int .i64 (G.st : Int)) := (blk_cell hmb 8).trans rfl; have m9 : w5.cell? ⟨mb, 9, none⟩ = some (.int .i64 (G.rd : Int)) := (blk_cell hmb 9).trans rfl; have r0 : w5.cell? ⟨rs, 0, none⟩ = some (.int .i64 0) := (blk_cell hrs 0).trans rfl; have fr0 := blk_frozen hrs 0; have r1 : w5.cell? ⟨rs, 1, none⟩ = some (.int .i32 0) := (blk_cell hrs 1).trans rfl; have fr1 := blk_frozen hrs 1; have r2 : w5.cell? ⟨rs, 2, none⟩ = some (.slice none 0 0) := (blk_cell hrs 2).trans rfl; have fr2 := blk_frozen hrs 2; have r3 : w5.cell? ⟨rs, 3, none⟩ = some (.int .i64 0) := (blk_cell hrs 3).trans rfl; have fr3 := blk_frozen hrs 3; have r4 : w5.cell? ⟨rs, 4, none⟩ = some (.int .i64 0) := (blk_cell hrs 4).trans rfl; have fr4 := blk_frozen hrs 4; have HR := Aside0.mk hr; have HC2 := Aside0.mk hC2; have HRS := Aside0.mk hrs; have HBL := Aside0.mk hbl; have HL2 := Aside0.mk hl2; clear hr hmb hC2 hrs hbl hl2)
          have hfin : (((((w5.setCell ⟨rs, 0, none⟩ (.int .i64 en)).setCell ⟨rs, 1, none⟩ (.int .i32 v)).setCell ⟨rs, 2, none⟩ (.slice A2 G.tr.length c2)).setCell ⟨rs, 3, none⟩ (.int .i64 (G.st : Int))).setCell ⟨rs, 4, none⟩ (.int .i64 (G.rd : Int))).heap[rs]? = some (.cells #[.int .i64 en, .int .i32 v, .slice A2 G.tr.length c2, .int .i64 (G.st : Int), .int .i64 (G.rd : Int)] 32 (0, 0)) := blk_put (blk_set (blk_set (blk_set (blk_set HRS.out 0 _) 1 _) 2 _) 3 _) 4 _ (by simp [res0])
          have hfb : Below w.heap.size w (((((w5.setCell ⟨rs, 0, none⟩ (.int .i64 en)).setCell ⟨rs, 1, none⟩ (.int .i32 v)).setCell ⟨rs, 2, none⟩ (.slice A2 G.tr.length c2)).setCell ⟨rs, 3, none⟩ (.int .i64 (G.st : Int))).setCell ⟨rs, 4, none⟩ (.int .i64 (G.rd : Int))) := below_set (below_set (below_set (below_set (below_set HBL.out (by have := HO.out; omega)) (by have := HO.out; omega)) (by have := HO.out; omega)) (by have := HO.out; omega)) (by have := HO.out; omega)
          have hfo : ∀ k, k ≠ rs → w5.heap[k]? = (((((w5.setCell ⟨rs, 0, none⟩ (.int .i64 en)).setCell ⟨rs, 1, none⟩ (.int .i32 v)).setCell ⟨rs, 2, none⟩ (.slice A2 G.tr.length c2)).setCell ⟨rs, 3, none⟩ (.int .i64 (G.st : Int))).setCell ⟨rs, 4, none⟩ (.int .i64 (G.rd : Int))).heap[k]? := fun k hk => by
            rw [Below.heap_setCell _ _ _ _ hk, Below.heap_setCell _ _ _ _ hk, Below.heap_setCell _ _ _ _ hk, Below.heap_setCell _ _ _ _ hk, Below.heap_setCell _ _ _ _ hk]
          exact bodyPost_ret (v := .agg #[.int .i64 en, .int .i32 v, .slice A2 G.tr.length c2, .int .i64 (G.st : Int), .int .i64 (G.rd : Int)]) (results_cell_row rfl _ _ rs 32 _ (0, 0) _ rfl hfin Try.underlying32 rfl I32.out) rfl ⟨en, v, G, A2, c2, HR.out, rfl, HL2.out, fun W' hW => HC2.out W' (fun k h1_ h2_ h3_ => (hfo k h1_).trans (hW k (Nat.lt_of_lt_of_le h3_ (Below.setCell (Below.setCell (Below.setCell (Below.setCell (Below.setCell (Below.refl 0 w5) (Nat.zero_le _) _) (Nat.zero_le _) _) (Nat.zero_le _) _) (Nat.zero_le _) _) (Nat.zero_le _) _).size) (Nat.not_lt_of_le h2_)).symm), hfb⟩
end Go.Proofs.Ytabkinlpbefjgaa.L

namespace Go.Proofs.Ytabkinlpbefjgaa.L
open Go.RowKit Go.Proofs.Ytabkinlpbefjgaa.X Go.Proofs.YtabkinlpbefjgaaW.PrintWords Go.Proofs.YtabkinlpbefjgaaW.PrintLast Go.Proofs.YtabkinlpbefjgaaW.PrintMore
attribute [local go_sem] max2_int min2_int max_two min_two max_three min_three max_four min_four   -- for this text's walks alone
set_option linter.unusedVariables false
set_option linter.unusedSimpArgs false
def nxS (F : List S47) (GS : List S57) (inp : List Int) (st : List Fr) (G : Gl) : SR := stepS F GS inp ((G.st : Int) + 1) st G
def runK (F : List S47) (GS : List S57) (inp : List Int) : Nat → SR → SR
  | 0, s => s
  | k + 1, .go st G => runK F GS inp k (nxS F GS inp st G)
  | _ + 1, .fin e v G => .fin e v G
def endS : SR → SR
  | .go _ G => .fin 5 0 G
  | .fin e v G => .fin e v G
theorem runK_fin (F : List S47) (GS : List S57) (inp : List Int) (e v : Int) (G : Gl) : ∀ k, runK F GS inp k (.fin e v G) = .fin e v G
  | 0 => rfl
  | _ + 1 => rfl
theorem step_nx (F : List S47) (GS : List S57) (inp : List Int) (fuel : Int) (fr : Fr) (q : List Fr) (G : Gl) : stepS F GS inp fuel (fr :: q) G = if fuel ≤ (G.st : Int) then .fin 5 0 G else nxS F GS inp (fr :: q) G := by
  show stepC F GS inp fuel fr q G = if fuel ≤ (G.st : Int) then .fin 5 0 G else stepC F GS inp ((G.st : Int) + 1) fr q G
  unfold stepC
  by_cases h : fuel ≤ (G.st : Int)
  · rw [if_pos h, if_pos h]
  · rw [if_neg h, if_neg h, if_neg (show ¬ (G.st : Int) + 1 ≤ (G.st : Int) by omega)]
theorem nx_shape {F : List S47} {GS : List S57} {inp : List Int} {fr : Fr} {q : List Fr} {G : Gl} :
    (∀ st2 G2, nxS F GS inp (fr :: q) G = .go st2 G2 → st2 ≠ [] ∧ G2.st = G.st + 1 ∧ G.tr <+: G2.tr) ∧ (∀ e v G2, nxS F GS inp (fr :: q) G = .fin e v G2 → e ≠ 5 ∧ G2.st = G.st + 1 ∧ G2.tr = G.tr) := by
  have e : nxS F GS inp (fr :: q) G = stepC F GS inp ((G.st : Int) + 1) fr q G := rfl
  rw [e]
  unfold stepC
  rw [if_neg (show ¬ (G.st : Int) + 1 ≤ (G.st : Int) by omega)]
  have hi : ∀ x regs, (∀ r G2, insF GS inp x regs G.tick = .go r G2 → G2.st = G.st + 1 ∧ G.tr <+: G2.tr) ∧ (∀ e, insF GS inp x regs G.tick = .stop e → e ≠ 5) := by
    intro x regs
    unfold insF
    constructor
    · intro r G2 h
      repeat' split at h
      all_goals first
        | (injection h with h1 h2; subst h2; exact ⟨rfl, List.prefix_refl _⟩)
        | (injection h with h1 h2; subst h2; exact ⟨rfl, List.prefix_append _ _⟩)
        | cases h
    · intro e h
      repeat' split at h
      all_goals first
        | (injection h with h1; subst h1; decide)
        | cases h
  constructor
  · intro st2 G2 h
    split at h
    · rename_i x hx
      have hI := hi x fr.regs
      split at h
      · rename_i regs G3 h3
        injection h with h1 h2
        subst h1 h2
        have := hI.1 _ _ h3
        exact ⟨by simp, this.1, this.2⟩
      · cases h
      · split at h
        · cases h
        · injection h with h1 h2
          subst h1 h2
          exact ⟨by simp, rfl, List.prefix_refl _⟩
    · split at h
      · injection h with h1 h2
        subst h1 h2
        exact ⟨by simp, rfl, List.prefix_refl _⟩
      · split at h
        · injection h with h1 h2
          subst h1 h2
          exact ⟨by simp, rfl, List.prefix_refl _⟩
        · cases q with
          | nil => cases h
          | cons p q =>
            injection h with h1 h2
            subst h1 h2
            exact ⟨by simp, rfl, List.prefix_refl _⟩
  · intro e v G2 h
    split at h
    · rename_i x hx
      have hI := hi x fr.regs
      split at h
      · cases h
      · rename_i e2 h3
        injection h with h1 h2 h4
        subst h1 h4
        exact ⟨hI.2 _ h3, rfl, rfl⟩
      · split at h
        · injection h with h1 h2 h4
          subst h1 h4
          exact ⟨by decide, rfl, rfl⟩
        · cases h
    · split at h
      · cases h
      · split at h
        · cases h
        · cases q with
          | nil =>
            injection h with h1 h2 h4
            subst h1 h4
            exact ⟨by decide, rfl, rfl⟩
          | cons p q => cases h
theorem runS_end {F : List S47} {GS : List S57} {inp : List Int} {fuel : Int} : ∀ (n : Nat) (st : List Fr) (G : Gl), st ≠ [] → G.st + n = fuel.toNat → runS F GS inp fuel (n + 1) (.go st G) = endS (runK F GS inp n (.go st G))
  | n, [], G, h, _ => absurd rfl h
  | 0, fr :: q, G, _, hf => by
    show runS F GS inp fuel 0 (stepS F GS inp fuel (fr :: q) G) = .fin 5 0 G
    rw [step_nx, if_pos (by omega)]
    rfl
  | n + 1, fr :: q, G, _, hf => by
    show runS F GS inp fuel (n + 1) (stepS F GS inp fuel (fr :: q) G) = endS (runK F GS inp n (nxS F GS inp (fr :: q) G))
    rw [step_nx, if_neg (by omega)]
    obtain ⟨h1, h2⟩ := nx_shape (F := F) (GS := GS) (inp := inp) (fr := fr) (q := q) (G := G)
    cases hx : nxS F GS inp (fr :: q) G with
    | go st2 G2 =>
      obtain ⟨a, b, c⟩ := h1 _ _ hx
      exact runS_end n st2 G2 a (by omega)
    | fin e v G2 =>
      rw [runK_fin]
      rfl
def runE (F : List S47) (GS : List S57) (inp : List Int) (n : Nat) : SR := runK F GS inp n (.go [newFr F mainB [] (-1)] (Gl.start GS))
theorem runT_eq (F : List S47) (GS : List S57) (inp : List Int) (fuel : Int) : runT F GS inp fuel = endS (runE F GS inp fuel.toNat) := by
  unfold runT runE
  exact runS_end fuel.toNat _ _ (by simp) (Nat.zero_add _)
end Go.Proofs.Ytabkinlpbefjgaa.L

namespace Go.Proofs.Ytabkinlpbefjgaa.L
open Go.RowKit Go.Proofs.Ytabkinlpbefjgaa.X Go.Proofs.YtabkinlpbefjgaaW.PrintWords Go.Proofs.YtabkinlpbefjgaaW.PrintLast Go.Proofs.YtabkinlpbefjgaaW.PrintMore
attribute [local go_sem] max2_int min2_int max_two min_two max_three min_three max_four min_four   -- for this text's walks alone
set_option linter.unusedVariables false
set_option linter.unusedSimpArgs false
open Go.Proofs.Ytabkinlpbefjgaa.Pure
end Go.Proofs.Ytabkinlpbefjgaa.L

namespace Go.Proofs.Ytabkinlpbefjgaa.L
open Go.RowKit Go.Proofs.Ytabkinlpbefjgaa.X Go.Proofs.YtabkinlpbefjgaaW.PrintWords Go.Proofs.YtabkinlpbefjgaaW.PrintLast Go.Proofs.YtabkinlpbefjgaaW.PrintMore
attribute [local go_sem] max2_int min2_int max_two min_two max_three min_three max_four min_four   -- for this text's walks alone
set_option linter.unusedVariables false
set_option linter.unusedSimpArgs false
open Go.Proofs.Ytabkinlpbefjgaa.Pure
structure OkAll (F : List S47) (GS : List S57) : Prop where
  ok : OkMid F GS
  fn : ∀ f ∈ F, f.f0.size ≤ 64
  gn : ∀ g ∈ GS, g.f0.size ≤ 64
  few : F.length ≤ 1000000
  gfew : GS.length ≤ 1000000
theorem fine_at (GS : List S57) (F : List S47) (AG : Option Addr) (cG : Nat) (AF : Option Addr) (cF : Nat) (w : World) (hG : Kd.C k57 w AG GS.length GS) (hcG : GS.length ≤ cG) (hF : Kd.C k47 w AF F.length F) (hcF : F.length ≤ cF) (hN : ∀ f ∈ F, ∀ b ∈ f.f3, ∀ x ∈ b.f0, W32 x.f5) :
    Calls Try.prog 7 #[.agg #[.slice AG GS.length cG, .slice AF F.length cF]] w fun e w' => Below w.heap.size w w' ∧ (e = .returned (.bool false) ∨ (e = .returned (.bool true) ∧ Aside0 (OkAll F GS) ∧ ∃ A, AF = some A)) := by
  refine (fine_calls GS F AG cG AF cF w hG hcG hF hcF).mono ?_
  rintro e w' ⟨b, rfl, hb, hB⟩
  refine ⟨hB, ?_⟩
  cases b with
  | false => exact .inl rfl
  | true =>
    have h := hb rfl
    obtain ⟨h1, h2, h3⟩ := ok_mid h.2 h.1 hN
    refine .inr ⟨rfl, ⟨⟨h1, h2, h3, Nat.le_trans h.1.fns (by decide), Nat.le_trans h.1.gl (by decide)⟩⟩, ?_⟩
    obtain ⟨ad, _, _, had, _⟩ := at_T47 hF ((fnAt F mainB : Nat) : Int) (by omega) (by have := h.2.main; omega)
    exact ⟨_, had⟩
structure LawW (GS : List S57) (F : List S47) (AG : Option Addr) (cG : Nat) (A : Option Addr) (cF : Nat) (w W : World) : Prop where
  below : Below w.heap.size w W
  box : W.heap[w.heap.size]? = some (.cells #[.slice AG GS.length cG, .slice A F.length cF] 25 (0, 0))
theorem LawW.keep {GS : List S57} {F : List S47} {AG : Option Addr} {cG : Nat} {A : Option Addr} {cF : Nat} {w W W' : World} (h : LawW GS F AG cG A cF w W) (hb : Below W.heap.size W W') : LawW GS F AG cG A cF w W' := ⟨below_step h.below hb, blk_below h.box hb⟩
theorem LawW.c0 {GS : List S57} {F : List S47} {AG : Option Addr} {cG : Nat} {A : Option Addr} {cF : Nat} {w W : World} (h : LawW GS F AG cG A cF w W) : W.cell? ⟨w.heap.size, 0, none⟩ = some (.slice AG GS.length cG) := (blk_cell h.box 0).trans rfl
theorem LawW.c1 {GS : List S57} {F : List S47} {AG : Option Addr} {cG : Nat} {A : Option Addr} {cF : Nat} {w W : World} (h : LawW GS F AG cG A cF w W) : W.cell? ⟨w.heap.size, 1, none⟩ = some (.slice A F.length cF) := (blk_cell h.box 1).trans rfl
theorem LawW.new (GS : List S57) (F : List S47) (AG : Option Addr) (cG : Nat) (A : Option Addr) (cF : Nat) (w : World) : LawW GS F AG cG A cF w (w.alloc (.cells #[.slice AG GS.length cG, .slice A F.length cF] 25)) := ⟨below_alloc (Below.refl _ _) _, blk_new _ _⟩
theorem trace_at {GS : List S57} {F : List S47} {AG : Option Addr} {cG : Nat} {A : Addr} {cF : Nat} {w W : World} (h : LawW GS F AG cG (some A) cF w W) (hO : OkAll F GS) (inp : List Int) (AI : Option Addr) (cI : Nat) (fuel : Int)
    (hG : Kd.C k57 w AG GS.length GS) (hF : Kd.C k47 w (some A) F.length F) (hI : (Kd.int .i32).C w AI inp.length inp) (hcF : F.length ≤ cF) (hcG : GS.length ≤ cG) (hcI : inp.length ≤ cI) (hw : ∀ v ∈ inp, W32 v) (hlen : inp.length ≤ 30) (hfuel : fuel ≤ 10000) :
    Calls Try.prog 10 #[.agg #[.slice AG GS.length cG, .slice (some A) F.length cF], .slice AI inp.length cI, .int .i64 fuel] W (TracePost F GS inp fuel W) :=
  trace_calls F GS inp fuel W A cF AG cG AI cI (Kd.C_below hF h.below) (Kd.C_below hG h.below) (Kd.C_below hI h.below) hcF hcG hcI hO.ok hw hO.fn hO.gn (by omega) (by omega)
theorem cut_at (A : Option Addr) (c : Nat) (l inp : List Int) (fuel : Int) (f : Nat) (w : World) (hl : (Kd.int .i32).C w A l.length l) (hc : l.length ≤ c) (hinp : l.take 30 = inp) (hf : max 0 (min fuel 400) = (f : Int)) :
    Calls Try.prog 9 #[.slice A l.length c, .int .i64 fuel] w fun e w' => e = .returned (.tuple #[.slice A inp.length c, .int .i64 (f : Int)]) ∧ w' = w := by
  have h := cut_calls A c l fuel w hl hc
  rw [hinp, hf] at h
  exact h
theorem nx_tr {F : List S47} {GS : List S57} {inp : List Int} {fr : Fr} {q : List Fr} {G : Gl} {st2 : List Fr} {G2 : Gl} (h : nxS F GS inp (fr :: q) G = .go st2 G2) : G2.tr.length ≤ G.tr.length + 1 := by
  have e : nxS F GS inp (fr :: q) G = stepC F GS inp ((G.st : Int) + 1) fr q G := rfl
  rw [e] at h
  unfold stepC at h
  rw [if_neg (show ¬ (G.st : Int) + 1 ≤ (G.st : Int) by omega)] at h
  have hi : ∀ x regs r G2, insF GS inp x regs G.tick = .go r G2 → G2.tr.length ≤ G.tr.length + 1 := by
    intro x regs r G2 h
    unfold insF at h
    repeat' split at h
    all_goals first
      | (injection h with h1 h2; subst h2; exact Nat.le_succ _)
      | (injection h with h1 h2; subst h2; show (G.tr ++ [_]).length ≤ _; rw [List.length_append]; exact Nat.le_refl _)
      | cases h
  split at h
  · split at h
    · rename_i regs G3 h3
      injection h with h1 h2
      subst h1 h2
      exact hi _ _ _ _ h3
    · cases h
    · split at h
      · cases h
      · injection h with h1 h2
        subst h1 h2
        exact Nat.le_succ _
  · split at h
    · injection h with h1 h2
      subst h1 h2
      exact Nat.le_succ _
    · split at h
      · injection h with h1 h2
        subst h1 h2
        exact Nat.le_succ _
      · cases q with
        | nil => cases h
        | cons p q =>
          injection h with h1 h2
          subst h1 h2
          exact Nat.le_succ _
theorem runK_tr {F : List S47} {GS : List S57} {inp : List Int} : ∀ (n : Nat) (st : List Fr) (G : Gl), st ≠ [] → (∀ st2 G2, runK F GS inp n (.go st G) = .go st2 G2 → G2.tr.length ≤ G.tr.length + n) ∧ (∀ e v G2, runK F GS inp n (.go st G) = .fin e v G2 → G2.tr.length ≤ G.tr.length + n)
  | 0, st, G, h => ⟨fun st2 G2 e => (by injection e with e1 e2; subst e2; exact Nat.le_refl _), fun e v G2 h => (by cases h)⟩
  | n + 1, [], G, h => absurd rfl h
  | n + 1, fr :: q, G, h => by
    show (∀ st2 G2, runK F GS inp n (nxS F GS inp (fr :: q) G) = .go st2 G2 → _) ∧ (∀ e v G2, runK F GS inp n (nxS F GS inp (fr :: q) G) = .fin e v G2 → _)
    obtain ⟨h1, h2⟩ := nx_shape (F := F) (GS := GS) (inp := inp) (fr := fr) (q := q) (G := G)
    cases hx : nxS F GS inp (fr :: q) G with
    | go st2 G2 =>
      have h3 := nx_tr hx
      obtain ⟨a, b⟩ := runK_tr (F := F) (GS := GS) (inp := inp) n st2 G2 (h1 _ _ hx).1
      exact ⟨fun s4 G4 e => by have := a s4 G4 e; omega, fun e4 v4 G4 e => by have := b e4 v4 G4 e; omega⟩
    | fin e v G2 =>
      have h3 := (h2 _ _ _ hx).2.2
      rw [runK_fin]
      refine ⟨fun s4 G4 e => (by cases e), fun e4 v4 G4 e => ?_⟩
      injection e with e1 e2 e5
      subst e5
      rw [h3]
      omega
theorem runT_tr {F : List S47} {GS : List S57} {inp : List Int} {fuel : Int} {e v : Int} {G : Gl} (h : runT F GS inp fuel = .fin e v G) : G.tr.length ≤ fuel.toNat := by
  rw [runT_eq] at h
  obtain ⟨h1, h2⟩ := runK_tr (F := F) (GS := GS) (inp := inp) fuel.toNat [newFr F mainB [] (-1)] (Gl.start GS) (by simp)
  have h0 : (Gl.start GS).tr.length = 0 := rfl
  unfold runE at h
  cases hx : runK F GS inp fuel.toNat (.go [newFr F mainB [] (-1)] (Gl.start GS)) with
  | go s G2 => rw [hx] at h; injection h with a1 a2 a3; have := h1 _ _ hx; rw [← a3]; omega
  | fin e2 v2 G2 => rw [hx] at h; injection h with a1 a2 a3; have := h2 _ _ _ hx; rw [← a3]; omega
theorem put_step_ {P : Program} {o : Oper} {a : Act} {w : World} {Q : Exit → Act → World → Prop} {K : Act → World → Prop} (ty : TypeId) (x y : Operand) (ho : o.op = .store ty x y) (g : Nat) (hx : a.eval x = .pointer (some ⟨g, 0, none⟩)) (t : TypeId) (cs cs' : Array Value) (hy : a.eval y = .agg cs')
    (hg : w.heap[g]? = some (.cells cs t (0, 0))) (hi : (P.info? ty).map (·.size) = some cs'.size) (hs : cs.size = cs'.size) (h1 : cs'.all (·.oneCell') = true)
    (h : ∀ w1 : World, w1.heap[g]? = some (.cells cs' t (0, 0)) → (∀ B, B ≤ g → Below B w w1) → (∀ k, k ≠ g → w1.heap[k]? = w.heap[k]?) → K (a.put o.dst undef) w1) : o.wp P a w K Q :=
  wp_store_row ty x y ho g hx t cs cs' hy hg hi hs h1 (h _ (setRow_heap w g cs cs' t (0, 0) hg) (fun B hB => below_setRow (Below.refl B w) hB cs') (fun k hk => setRow_other w g k cs' hk))
end Go.Proofs.Ytabkinlpbefjgaa.L

