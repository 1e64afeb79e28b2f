/- Texts of this seat that a claim bears, put together by this session's own program shake.py: TrRl, TrRm, TrRn. -/
import Derived.Test.YtabkinlpbefjgaaKps
import Derived.Test.YtabkinlpbefjgaaKd24
namespace Go.Proofs.Ytabkinlpbefjgaa.L
open Go.RowKit Go.Proofs.Ytabkinlpbefjgaa.X Go.Proofs.YtabkinlpbefjgaaW.PrintWords Go.Proofs.YtabkinlpbefjgaaW.PrintLast Go.Proofs.YtabkinlpbefjgaaW.PrintMore
attribute [local go_sem] max2_int min2_int max_two min_two max_three min_three max_four min_four   -- for this text's walks alone
set_option linter.unusedVariables false
set_option linter.unusedSimpArgs false
open Go.Proofs.Ytabkinlpbefjgaa.Pure
set_option maxHeartbeats 4000000 in
set_option maxRecDepth 100000 in
theorem rcall_full {V : Qv} (hV : QvOk V) {W : World} {G : Gl} {c va : Int} {tv : Value} (hQ : QInv V W G c 0 va tv) (nm : ByteArray) (args : List Int) (AR : Option Addr) (cR : Nat) (hc : c = 32) :
    Calls Try.prog 18 #[.pointer (some ⟨V.mb, 0, none⟩), .string nm, .slice AR args.length cR] W fun e w' => ∃ v, e = .returned (.int .i32 v) ∧ CallRel V W c va tv nm args G v w' := by
  subst hc
  have hm := hQ.m
  have m5 : W.cell? ⟨V.mb, 5, none⟩ = some (.int .i64 32) := (blk_cell hm 5).trans rfl
  have m6 : W.cell? ⟨V.mb, 6, none⟩ = some (.int .i64 0) := (blk_cell hm 6).trans rfl
  have fm6 := blk_frozen hm 6
  have HM := Aside0.mk hm
  clear hm
  go_enter Try.func18, Try.ntmps18
  go_wp2
  go_ret
  have ht : Turned W (W.setCell ⟨V.mb, 6, none⟩ (.int .i64 4)) V.mb (rC V.E ⟨32, 4, va, tv, G.st, G.rd⟩) 61 := ⟨blk_put HM.out 6 _ (by simp [rC]), (Tr.refl (one V.mb) W).set (.inl (one_self V.mb)) _⟩
  exact ⟨0, rfl, tv, G, ht.2.mono (fun q hq => .inl hq), .inl rfl, W32.zero, Nat.le_refl _, .inr ⟨4, 32, by decide, hQ.mach hV ht rfl rfl hQ.trl hQ.stl, .inl ⟨rfl, rfl, rfl⟩⟩⟩
structure At18 (V : Qv) (W wl : World) (G G' : Gl) (c va : Int) (tv tv' : Value) (nm : ByteArray) (args : List Int) (k n rb s : Nat) (FA : Array Value) (regs : List Int) (blk ins : Nat) : Prop where
  inv : QInv V wl G' (c + 1) 0 va tv'
  row : wl.heap[rb]? = some (Obj.cells (row32 regs) 21 (0, 0))
  len : regs.length = n
  w32 : ∀ v ∈ regs, W32 v
  offR : Off V wl tv' rb
  fblk : wl.heap[s]? = some (Obj.cells FA 47 (0, 0))
  offS : Off V wl tv' s
  tr : Tr (V.own tv) W wl
  tvok : TvOk W tv tv'
  st : G.st ≤ G'.st
  rbW : W.heap.size ≤ rb
  srb : s ≠ rb
  reach : ∀ (rest : List Fr) (d : Int), (rest.length : Int) = c → Reach V (.go (newFr V.F nm args d :: rest) G) (.go (⟨k, regs, blk, ins, d⟩ :: rest) G')
section
variable {V : Qv} {W wl w' : World} {G G' : Gl} {c va : Int} {tv tv' : Value} {nm : ByteArray} {args : List Int} {k n rb s : Nat} {FA : Array Value} {regs : List Int} {blk ins : Nat}
theorem Off.keep_ {x : Nat} (h : Off V wl tv x) (hb : wl.heap.size ≤ w'.heap.size) : Off V w' tv x := ⟨Nat.lt_of_lt_of_le h.lt hb, h.ge, h.mb, h.db, h.bs, h.tv⟩
theorem At18.keep_ (h : At18 V W wl G G' c va tv tv' nm args k n rb s FA regs blk ins) (hb : Below wl.heap.size wl w') : At18 V W w' G G' c va tv tv' nm args k n rb s FA regs blk ins :=
  ⟨h.inv.keep_ hb, blk_below h.row hb, h.len, h.w32, h.offR.keep_ hb.size, blk_below h.fblk hb, h.offS.keep_ hb.size, h.tr.then_ (S2 := nil_) (Tr.of_below hb nil_) (fun _ hq => hq.elim), h.tvok, h.st, h.rbW, h.srb, h.reach⟩
theorem At18.open_ (hV : QvOk V) (h : At18 V W wl G G' c va tv tv' nm args k n rb s FA regs blk ins) (hc : c ≠ 32) (hf : V.fuel ≤ (G'.st : Int)) (ht : Turned wl w' V.mb (rC V.E ⟨c + 1, 5, va, tv', G'.st, G'.rd⟩) 61) : CallRel V W c va tv nm args G 0 w' := by
  refine ⟨tv', G', h.tr.then_ ht.2 (fun q hq => .inl (.inl hq)), h.tvok, W32.zero, h.st, .inr ⟨5, c + 1, by decide, h.inv.mach hV ht rfl rfl h.inv.trl h.inv.stl, .inr ⟨hc, fun rest d hr => ?_⟩⟩⟩
  refine (h.reach rest d hr).trans ?_
  have h1 := Reach.one V ⟨k, regs, blk, ins, d⟩ rest G'
  unfold stepC at h1
  rw [if_pos hf] at h1
  exact h1
theorem own_old {t0 t1 : Value} (hv : TvOk W t0 t1) {q : Nat} (h : V.own t1 q) : V.own t0 q ∨ W.heap.size ≤ q := by
  rcases h with h | h | h
  · exact .inl (.inl h)
  · exact .inl (.inr (.inl h))
  · rcases hv with hv | ⟨b, hv, hle⟩
    · exact .inl (.inr (.inr (h.trans hv)))
    · rw [hv] at h
      injection h with h
      exact .inr (by omega)
theorem At18.ticked (hV : QvOk V) (h : At18 V W wl G G' c va tv tv' nm args k n rb s FA regs blk ins) (hf : ¬ V.fuel ≤ (G'.st : Int)) (ht : Turned wl w' V.mb (rC V.E ⟨c + 1, 0, va, tv', G'.st + 1, G'.rd⟩) 61) :
    QInv V w' G'.tick (c + 1) 0 va tv' ∧ w'.heap[rb]? = some (.cells (row32 regs) 21 (0, 0)) ∧ w'.heap[s]? = some (.cells FA 47 (0, 0)) ∧ Off V w' tv' rb ∧ Off V w' tv' s ∧ Tr (V.own tv) W w' := by
  have hfu := hV.fu
  exact ⟨h.inv.mach hV (G' := G'.tick) ht rfl rfl (Nat.le_succ_of_le h.inv.trl) (show G'.st + 1 ≤ 100000 by omega), ht.2.blk h.row (fun hq => h.offR.mb hq), ht.2.blk h.fblk (fun hq => h.offS.mb hq), h.offR.keep_ ht.2.size, h.offS.keep_ ht.2.size, h.tr.then_ ht.2 (fun q hq => .inl (.inl hq))⟩
theorem At18.ins_ (hV : QvOk V) {wz : World} {G3 : Gl} {tv3 : Value} {x : S44} {r : List Int} (h : At18 V W wl G G' c va tv tv' nm args k n rb s FA regs blk ins) (hf : ¬ V.fuel ≤ (G'.st : Int)) (ht : Turned wl w' V.mb (rC V.E ⟨c + 1, 0, va, tv', G'.st + 1, G'.rd⟩) 61) (hx : ((fnOf V.F k).f3.getD blk z41).f0[ins]? = some x)
    (hT : Tr (fun q => q = rb ∨ V.own tv' q) w' wz) (hv : TvOk w' tv' tv3) (hst : G'.tick.st ≤ G3.st) (hq : QInv V wz G3 (c + 1) 0 va tv3) (hrow : wz.heap[rb]? = some (.cells (row32 r) 21 (0, 0))) (hl : r.length = regs.length) (hw : ∀ v ∈ r, W32 v)
    (hreach : ∀ (fr : Fr) (rest : List Fr) (Gp : Gl), Gp.tick = G'.tick → ¬ V.fuel ≤ (Gp.st : Int) → (blkOf V.F fr).f0[fr.ins]? = some x → fr.regs = regs → (rest.length : Int) + 1 = c + 1 → Reach V (.go (fr :: rest) Gp) (.go (fr.on r :: rest) G3)) :
    At18 V W wz G G3 c va tv tv3 nm args k n rb s FA r blk (ins + 1) := by
  obtain ⟨q1, q2, q3, q4, q5, q6⟩ := h.ticked hV hf ht
  have hs := Nat.le_trans h.tr.size ht.2.size
  refine ⟨hq, hrow, hl.trans h.len, hw, q4.step hT.size hv, hT.blk q3 (fun hh => hh.elim h.srb (fun hh => hh.elim q5.mb (fun hh => hh.elim q5.bs q5.tv))), q5.step hT.size hv, q6.then_ hT (fun q hh => hh.elim (fun e => .inr (by rw [e]; exact h.rbW)) (own_old h.tvok)), h.tvok.trans hv hs, ?_, h.rbW, h.srb, fun rest d hr => ?_⟩
  · have h1 := h.st
    have h2 : G'.st + 1 ≤ G3.st := hst
    omega
  · exact (h.reach rest d hr).trans (hreach ⟨k, regs, blk, ins, d⟩ rest G' rfl hf hx rfl (by omega))
theorem At18.insEnd (hV : QvOk V) {wz : World} {G3 : Gl} {tv3 : Value} {x : S44} {en c2 : Int} (h : At18 V W wl G G' c va tv tv' nm args k n rb s FA regs blk ins) (hc : c ≠ 32) (hf : ¬ V.fuel ≤ (G'.st : Int)) (ht : Turned wl w' V.mb (rC V.E ⟨c + 1, 0, va, tv', G'.st + 1, G'.rd⟩) 61) (hx : ((fnOf V.F k).f3.getD blk z41).f0[ins]? = some x)
    (hT : Tr (fun q => q = rb ∨ V.own tv' q) w' wz) (hv : TvOk w' tv' tv3) (hst : G'.tick.st ≤ G3.st) (hne : en ≠ 0) (hq : QInv V wz G3 c2 en va tv3)
    (hreach : ∀ (fr : Fr) (rest : List Fr) (Gp : Gl), Gp.tick = G'.tick → ¬ V.fuel ≤ (Gp.st : Int) → (blkOf V.F fr).f0[fr.ins]? = some x → fr.regs = regs → (rest.length : Int) + 1 = c + 1 → Reach V (.go (fr :: rest) Gp) (.fin en 0 G3)) :
    CallRel V W c va tv nm args G 0 wz := by
  obtain ⟨q1, q2, q3, q4, q5, q6⟩ := h.ticked hV hf ht
  have hs := Nat.le_trans h.tr.size ht.2.size
  refine ⟨tv3, G3, q6.then_ hT (fun q hh => hh.elim (fun e => .inr (by rw [e]; exact h.rbW)) (own_old h.tvok)), h.tvok.trans hv hs, W32.zero, ?_, .inr ⟨en, c2, hne, hq, .inr ⟨hc, fun rest d hr => ?_⟩⟩⟩
  · have h1 := h.st
    have h2 : G'.st + 1 ≤ G3.st := hst
    omega
  · exact (h.reach rest d hr).trans (hreach ⟨k, regs, blk, ins, d⟩ rest G' rfl hf hx rfl (by omega))
theorem step_end {fr : Fr} {rest : List Fr} {Gp : Gl} (hf : ¬ V.fuel ≤ (Gp.st : Int)) (hx : (blkOf V.F fr).f0[fr.ins]? = none) : stepC V.F V.GS V.inp V.fuel fr rest Gp =
    if (blkOf V.F fr).f1 = 1 then .go (fr.jump (blkOf V.F fr).f3 :: rest) Gp.tick
    else if (blkOf V.F fr).f1 = 2 then .go (fr.jump (if get32 fr.regs (blkOf V.F fr).f2 = 0 then (blkOf V.F fr).f4 else (blkOf V.F fr).f3) :: rest) Gp.tick
    else leaveS (get32 fr.regs (blkOf V.F fr).f2) fr.d Gp.tick rest := by
  unfold stepC
  rw [if_neg hf, hx]
theorem At18.jump (hV : QvOk V) (h : At18 V W wl G G' c va tv tv' nm args k n rb s FA regs blk ins) (hf : ¬ V.fuel ≤ (G'.st : Int)) (ht : Turned wl w' V.mb (rC V.E ⟨c + 1, 0, va, tv', G'.st + 1, G'.rd⟩) 61) {b : S41} (hb : (fnOf V.F k).f3.getD blk z41 = b) (hx : b.f0[ins]? = none) {t : Nat}
    (hj : b.f1 = 1 ∧ b.f3 = (t : Int) ∨ b.f1 = 2 ∧ (if get32 regs b.f2 = 0 then b.f4 else b.f3) = (t : Int)) : At18 V W w' G G'.tick c va tv tv' nm args k n rb s FA regs t 0 := by
  obtain ⟨q1, q2, q3, q4, q5, q6⟩ := h.ticked hV hf ht
  refine ⟨q1, q2, h.len, h.w32, q4, q3, q5, q6, h.tvok, Nat.le_succ_of_le h.st, h.rbW, h.srb, fun rest d hr => (h.reach rest d hr).trans ?_⟩
  have hbk : blkOf V.F ⟨k, regs, blk, ins, d⟩ = b := hb
  have h1 := Reach.one V ⟨k, regs, blk, ins, d⟩ rest G'
  rw [step_end hf (by rw [hbk]; exact hx), hbk] at h1
  rcases hj with ⟨e1, e2⟩ | ⟨e1, e2⟩
  · rw [if_pos e1, e2] at h1
    exact h1
  · rw [if_neg (by rw [e1]; decide), if_pos e1] at h1
    have h2 : (if get32 (⟨k, regs, blk, ins, d⟩ : Fr).regs b.f2 = 0 then b.f4 else b.f3) = (t : Int) := e2
    rw [h2] at h1
    exact h1
theorem At18.leave (hV : QvOk V) {wz : World} (h : At18 V W wl G G' c va tv tv' nm args k n rb s FA regs blk ins) (hc : c ≠ 32) (hf : ¬ V.fuel ≤ (G'.st : Int)) (ht : Turned wl w' V.mb (rC V.E ⟨c + 1, 0, va, tv', G'.st + 1, G'.rd⟩) 61) (ht2 : Turned w' wz V.mb (rC V.E ⟨c, 0, va, tv', G'.st + 1, G'.rd⟩) 61) {b : S41} (hb : (fnOf V.F k).f3.getD blk z41 = b) (hx : b.f0[ins]? = none) (hk : b.f1 = 3) : CallRel V W c va tv nm args G (get32 regs b.f2) wz := by
  obtain ⟨q1, q2, q3, q4, q5, q6⟩ := h.ticked hV hf ht
  refine ⟨tv', G'.tick, q6.then_ ht2.2 (fun q hq => .inl (.inl hq)), h.tvok, W32.get h.w32 _, Nat.le_succ_of_le h.st, .inl ⟨hc, q1.mach hV (G' := G'.tick) ht2 rfl rfl q1.trl q1.stl, fun rest d hr => (h.reach rest d hr).trans ?_⟩⟩
  have hbk : blkOf V.F ⟨k, regs, blk, ins, d⟩ = b := hb
  have h1 := Reach.one V ⟨k, regs, blk, ins, d⟩ rest G'
  rw [step_end hf (by rw [hbk]; exact hx), hbk, if_neg (by rw [hk]; decide), if_neg (by rw [hk]; decide)] at h1
  exact h1
end
theorem ins_any {V : Qv} (hV : QvOk V) {W : World} {G : Gl} {c va : Int} {tv : Value} (hQ : QInv V W G c 0 va tv) {rb n : Nat} {regs : List Int} (hn : regs.length = n) (hr : W.heap[rb]? = some (.cells (row32 regs) 21 (0, 0))) (ho : Off V W tv rb) (hw : ∀ v ∈ regs, W32 v) (x : S44) (A7 : Option Addr) (c7 : Nat) (hc7 : x.f7.length ≤ c7) (h7 : (Kd.int .i64).C W A7 x.f7.length x.f7) (hX : OkIns V.F V.GS (n : Int) x) (htl : G.tr.length < G.st) (hc0 : 0 ≤ c) (hc32 : c ≤ 32) {N : Nat} (hN : V.fuel.toNat ≤ G.st + N) (hC : CallOk V N) :
    Calls Try.prog 29 #[.pointer (some ⟨V.mb, 0, none⟩), .slice (some ⟨rb, 0, none⟩) n n, .agg #[.int .i64 x.f0, .int .i64 x.f1, .int .i64 x.f2, .int .i64 x.f3, .int .i64 x.f4, .int .i32 x.f5, .string x.f6, .slice A7 x.f7.length c7]] W fun e w' => e = .returned (.tuple #[]) ∧ InsAll V W rb regs x G c va tv w' := by
  subst hn
  by_cases hk : x.f0 = 7
  · obtain ⟨k, op, D, A, B, num, nm, ixs⟩ := x
    obtain rfl : k = 7 := hk
    exact ins_call hV hQ hr ho hw op D A B num nm ixs A7 c7 hc7 h7 hX hc0 hc32 hN hC
  · exact ins_plain hV hQ hr ho hw x _ rfl hX hk htl
theorem C_set64 {W : World} {A : Option Addr} {n : Nat} {xs : List Int} (h : (Kd.int .i32).C W A n xs) {p : Addr} {z : Int} (u : Value) (hp : W.cell? p = some (.int .i64 z)) : (Kd.int .i32).C (W.setCell p u) A n xs := by
  refine ⟨h.1, h.2.1, fun h0 => ?_⟩
  obtain ⟨ad, e, hc⟩ := h.2.2 h0
  refine ⟨ad, e, fun j q hq => ?_⟩
  obtain ⟨cs, hl, hr, hcell⟩ := hc j q hq
  have hr2 : cs = [Value.int .i32 q] := hr
  refine ⟨cs, hl, hr, fun i u2 hu => ?_⟩
  have hne : p ≠ ad.add (j * (Kd.int .i32).sz + i) := fun e2 => by
    have h3 := hcell i u2 hu
    rw [← e2, hp] at h3
    rw [hr2] at hu
    cases i with
    | zero =>
      have h4 : Value.int .i32 q = u2 := by simpa using hu
      rw [← h4] at h3
      cases h3
    | succ i => simp at hu
  rw [World.cell?_setCell_other W p _ u hne]
  exact hcell i u2 hu
set_option maxHeartbeats 4000000 in
set_option maxRecDepth 100000 in
theorem rcall_go {V : Qv} (hV : QvOk V) {W : World} {G : Gl} {c va : Int} {tv : Value} (hQ : QInv V W G c 0 va tv) (nm : ByteArray) (args : List Int) (AR : Option Addr) (cR : Nat) (hc0 : 0 ≤ c) (hc1 : c < 32) (hnm : fnAt V.F nm < V.F.length) (hf1 : (fnOf V.F (fnAt V.F nm)).f1 = (args.length : Int)) (hwa : ∀ v ∈ args, W32 v) (hA : (Kd.int .i32).C W AR args.length args) (hl : args.length ≤ cR) {N : Nat} (hN : V.fuel.toNat ≤ G.st + N) (hC : ∀ N', N' < N → CallOk V N') :
    Calls Try.prog 18 #[.pointer (some ⟨V.mb, 0, none⟩), .string nm, .slice AR args.length cR] W fun e w' => ∃ v, e = .returned (.int .i32 v) ∧ CallRel V W c va tv nm args G v w' := by
  have hm := hQ.m
  have m5 : W.cell? ⟨V.mb, 5, none⟩ = some (.int .i64 c) := (blk_cell hm 5).trans rfl
  have fm5 := blk_frozen hm 5
  have hd1 : decide (c = 32) = false := decide_eq_false (by omega)
  have hw1 : wrap64 (c + 1) = c + 1 := w64 (by omega) (by omega)
  have HT1 : Aside0 (Turned W (W.setCell ⟨V.mb, 5, none⟩ (.int .i64 (c + 1))) V.mb (rC V.E ⟨c + 1, 0, va, tv, G.st, G.rd⟩) 61) := ⟨blk_put hm 5 _ (by simp [rC]), (Tr.refl (one V.mb) W).set (.inl (one_self V.mb)) _⟩
  have HQ1 := Aside0.mk (hQ.mach hV HT1.out rfl rfl hQ.trl hQ.stl)
  have HAW := Aside0.mk (C_set64 hA (.int .i64 (c + 1)) m5)
  obtain ⟨k, hk⟩ : ∃ k, fnAt V.F nm = k := ⟨_, rfl⟩
  have HK := Aside0.mk hk
  have hkl : k < V.F.length := hk ▸ hnm
  have HPOS : Aside0 (posOf (fnAt V.F nm) V.F.length = (k : Int)) := ⟨by rw [hk]; exact if_pos hkl⟩
  have HFEW := Aside0.mk (Nat.le_trans hV.mid.few.1 (by decide : 1000 ≤ 1000000))
  have HCG := Aside0.mk hV.hcG
  have HCF := Aside0.mk hV.hcF
  have I47 : Aside0 ((Try.prog.info? 47).map (·.size) = some 4) := ⟨by kernel_rfl⟩
  have HV := Aside0.mk hV
  have HQ := Aside0.mk hQ
  have HA := Aside0.mk hA
  have HWA := Aside0.mk hwa
  have HPF := Aside0.mk hf1
  have HNM := Aside0.mk hnm
  have HN := Aside0.mk hN
  have HC := Aside0.mk hC
  clear hm hA hwa hf1 hnm hN hC hk
  go_enter Try.func18, Try.ntmps18
  go_upto_region 5 with fail
  clear m5 fm5
  have HA1 := Aside0.mk (HT1.out.2)
  generalize W.setCell ⟨V.mb, 5, none⟩ (.int .i64 (c + 1)) = w1 at HT1 HQ1 HA1 HAW ⊢
  have HG1 := Aside0.mk (Kd.C_below HV.out.hG HQ1.out.below)
  have HFR := Aside0.mk (Kd.C_below HV.out.hF HQ1.out.below)
  obtain ⟨ad, A3, c3, had, q0, q1, q2, q3, hl3, hC3⟩ := at_T47 HV.out.hF (k : Int) (by omega) (by omega)
  rw [rd47] at q0 q1 q2 q3 hl3 hC3
  rw [Int.toNat_natCast] at q0 q1 q2 q3
  replace q0 := pw_cell_below HQ1.out.below q0
  replace q1 := pw_cell_below HQ1.out.below q1
  replace q2 := pw_cell_below HQ1.out.below q2
  replace q3 := pw_cell_below HQ1.out.below q3
  obtain ⟨f, hf⟩ : ∃ f, fnOf V.F k = f := ⟨_, rfl⟩
  rw [hf] at q0 q1 q2 q3 hl3 hC3
  have HFF := Aside0.mk hf
  have HL3 := Aside0.mk hl3
  have HC3 := Aside0.mk hC3
  clear hf hl3 hC3
  have HF1_ := HFR
  rw [had] at HFR
  have HF1 := HFR
  have m0 : w1.cell? ⟨V.mb, 0, none⟩ = some (.slice V.AG V.GS.length V.cG) := (blk_cell HQ1.out.m 0).trans rfl
  have m1 : w1.cell? ⟨V.mb, 1, none⟩ = some (.slice (some ad) V.F.length V.cF) := by rw [← had]; exact (blk_cell HQ1.out.m 1).trans rfl
  refine start_ (n := 15) (S := fun w_ => w_.cell? ⟨V.mb, 0, none⟩ = some (.slice V.AG V.GS.length V.cG) ∧ w_.cell? ⟨V.mb, 1, none⟩ = some (.slice (some ad) V.F.length V.cF) ∧ w_.cell? (ad.add (k * 4)) = some (.string f.f0) ∧ w_.cell? ⟨(ad.add (k * 4)).block, (ad.add (k * 4)).off + 1, none⟩ = some (.int .i64 f.f1) ∧ w_.cell? ⟨(ad.add (k * 4)).block, (ad.add (k * 4)).off + 2, none⟩ = some (.int .i64 f.f2) ∧ w_.cell? ⟨(ad.add (k * 4)).block, (ad.add (k * 4)).off + 3, none⟩ = some (.slice A3 f.f3.length c3) ∧ Aside0 (Below w1.heap.size w1 w_)) (ds := [14]) #[false, false, false, false, false, false, false, false, false, false, false, false, false, false, false] (by kernel_rfl) rfl rfl ⟨m0, m1, q0, q1, q2, q3, ⟨below_drew (Below.refl _ _)⟩⟩ (fun hHeld => ?_)
  refine pure_ (i := 0) (N := some 31) (v := ?_) (a' := ?_) #[true, false, false, false, false, false, false, false, false, false, false, false, false, false, false] rfl rfl (by kernel_rfl) (fun _ _ _ h => h) (Or.inl ⟨by rfl, ?_⟩) ?_ ?_
  rotate_left
  · intro w'
    go_simp
    with_reducible rfl
  rotate_left
  · simp only [ps_]
    rfl
  refine pure_ (i := 1) (N := some 32) (v := ?_) (a' := ?_) #[true, true, false, false, false, false, false, false, false, false, false, false, false, false, false] rfl rfl (by kernel_rfl) (fun _ _ _ h => h) (Or.inl ⟨by rfl, ?_⟩) ?_ ?_
  rotate_left
  · intro w'
    go_simp
    with_reducible rfl
  rotate_left
  · simp only [ps_]
    rfl
  refine pure_ (i := 2) (N := some 33) (v := ?_) (a' := ?_) #[true, true, true, false, false, false, false, false, false, false, false, false, false, false, false] rfl rfl (by kernel_rfl) (fun _ _ _ h => h) (Or.inl ⟨by rfl, ?_⟩) ?_ ?_
  rotate_left
  · intro w'
    go_simp
    with_reducible rfl
  rotate_left
  · simp only [ps_]
    rfl
  refine pure_ (i := 3) (N := some 34) (v := ?_) (a' := ?_) #[true, true, true, true, false, false, false, false, false, false, false, false, false, false, false] rfl rfl (by kernel_rfl) (fun _ _ _ h => h) (Or.inl ⟨by rfl, ?_⟩) ?_ ?_
  rotate_left
  · intro w'
    go_simp
    with_reducible rfl
  rotate_left
  · simp only [ps_]
    rfl
  refine take_ (i := 4) (N := some 35) (v := ?_) (a' := ?_) #[true, true, true, true, true, false, false, false, false, false, false, false, false, false, false] rfl rfl (by kernel_rfl) (fun _ _ _ h => h) (Or.inl ⟨by rfl, ?_⟩) hHeld ?_ ?_
  rotate_left
  · rintro w' ⟨h0_, h1_, h2_, h3_, h4_, h5_, h6_⟩
    go_simp
    with_reducible rfl
  rotate_left
  · simp only [ps_]
    rfl
  refine pure_ (i := 5) (N := some 36) (v := ?_) (a' := ?_) #[true, true, true, true, true, true, false, false, false, false, false, false, false, false, false] rfl rfl (by kernel_rfl) (fun _ _ _ h => h) (Or.inl ⟨by rfl, ?_⟩) ?_ ?_
  rotate_left
  · intro w'
    go_simp
    with_reducible rfl
  rotate_left
  · simp only [ps_]
    rfl
  refine pure_ (i := 6) (N := some 37) (v := ?_) (a' := ?_) #[true, true, true, true, true, true, true, false, false, false, false, false, false, false, false] rfl rfl (by kernel_rfl) (fun _ _ _ h => h) (Or.inl ⟨by rfl, ?_⟩) ?_ ?_
  rotate_left
  · intro w'
    go_simp
    with_reducible rfl
  rotate_left
  · simp only [ps_]
    rfl
  refine pure_ (i := 7) (N := some 38) (v := ?_) (a' := ?_) #[true, true, true, true, true, true, true, true, false, false, false, false, false, false, false] rfl rfl (by kernel_rfl) (fun _ _ _ h => h) (Or.inl ⟨by rfl, ?_⟩) ?_ ?_
  rotate_left
  · intro w'
    go_simp
    with_reducible rfl
  rotate_left
  · simp only [ps_]
    rfl
  refine take_ (i := 8) (N := some 39) (v := ?_) (a' := ?_) #[true, true, true, true, true, true, true, true, true, false, false, false, false, false, false] rfl rfl (by kernel_rfl) (fun _ _ _ h => h) (Or.inl ⟨by rfl, ?_⟩) hHeld ?_ ?_
  rotate_left
  · rintro w' ⟨h0_, h1_, h2_, h3_, h4_, h5_, h6_⟩
    go_simp
    with_reducible rfl
  rotate_left
  · simp only [ps_]
    rfl
  refine pure_ (i := 9) (N := some 40) (v := ?_) (a' := ?_) #[true, true, true, true, true, true, true, true, true, true, false, false, false, false, false] rfl rfl (by kernel_rfl) (fun _ _ _ h => h) (Or.inl ⟨by rfl, ?_⟩) ?_ ?_
  rotate_left
  · intro w'
    go_simp
    with_reducible rfl
  rotate_left
  · simp only [ps_]
    rfl
  refine join_ (σ := Nat) 1 #[true, true, true, true, true, true, true, true, true, true, true, true, true, true, false] (fun s => [(41, .int .i64 (k : Int)), (42, .pointer (some (ad.add (k * 4)))), (43, .agg #[.string f.f0, .int .i64 f.f1, .int .i64 f.f2, .slice A3 f.f3.length c3]), (7, .pointer (some ⟨s, 0, none⟩))]) (fun s w_ => Aside0 (Below w1.heap.size w1 w_) ∧ Aside0 (w_.heap[s]? = some (.cells #[.string ⟨#[]⟩, .int .i64 0, .int .i64 0, .slice none 0 0] 47 (0, 0))) ∧ Aside0 (w1.heap.size ≤ s)) ?_ (fun hfin => ?_)
  rotate_left
  refine two_ (i := 10) (j := 13) (Ni := some 41) (Nj := some 7) #[true, true, true, true, true, true, true, true, true, true, true, false, false, false, false] #[true, true, true, true, true, true, true, true, true, true, false, false, false, true, false] rfl rfl rfl rfl (by kernel_rfl) (by decide) (by decide) (fun K hK => ?_) (fun K hK => ?_)
  · refine goes_ Try.func21 (by kernel_rfl) rfl #[.agg #[.slice V.AG V.GS.length V.cG, .slice (some ad) V.F.length V.cF], .string nm] (by rfl) rfl rfl (by first | rfl | (simp only [List.map_toArray, List.map_cons, List.map_nil]; done) | (simp only [List.map_toArray, List.map_cons, List.map_nil]; rfl)) ?_
    refine (fnat_calls V.AG V.cG V.GS (some ad) V.cF V.F nm _ (Kd.C_below HG1.out hHeld.2.2.2.2.2.2.out) HCG.out (Kd.C_below HF1.out hHeld.2.2.2.2.2.2.out) HCF.out HFEW.out).mono ?_
    rw [HPOS.out]
    rintro e_ w2 ⟨rfl, hB_⟩
    refine ⟨_, rfl, ?_⟩
    refine hK.out _ _ ⟨pw_cell_below hB_ hHeld.1, pw_cell_below hB_ hHeld.2.1, pw_cell_below hB_ hHeld.2.2.1, pw_cell_below hB_ hHeld.2.2.2.1, pw_cell_below hB_ hHeld.2.2.2.2.1, pw_cell_below hB_ hHeld.2.2.2.2.2.1, ⟨below_then hHeld.2.2.2.2.2.2.out hHeld.2.2.2.2.2.2.out.size hB_⟩⟩ (fun hHeld => ?_)
    clear hK K
    refine norm_ (a' := ?_) ?_ ?_
    rotate_left
    · show Act.put _ (some 41) _ = _
      simp only [ps_]
      rfl
    refine pure_ (i := 11) (N := some 42) (v := ?_) (a' := ?_) #[true, true, true, true, true, true, true, true, true, true, true, true, false, false, false] rfl rfl (by kernel_rfl) (fun _ _ _ h => h) (Or.inl ⟨by rfl, ?_⟩) ?_ ?_
    rotate_left
    · intro w'
      go_simp
      with_reducible rfl
    rotate_left
    · simp only [ps_]
      rfl
    refine take_ (i := 12) (N := some 43) (v := ?_) (a' := ?_) #[true, true, true, true, true, true, true, true, true, true, true, true, true, false, false] rfl rfl (by kernel_rfl) (fun _ _ _ h => h) (Or.inl ⟨by rfl, ?_⟩) hHeld ?_ ?_
    rotate_left
    · rintro w' ⟨h0_, h1_, h2_, h3_, h4_, h5_, h6_⟩
      go_simp
      with_reducible rfl
    rotate_left
    · simp only [ps_]
      rfl
    refine one_ (i := 13) (N := some 7) #[true, true, true, true, true, true, true, true, true, true, true, true, true, true, false] rfl rfl (by kernel_rfl) (by decide) (fun K hK => ?_)
    refine box_step (by rfl) (N := 7) rfl (cs := #[.string ⟨#[]⟩, .int .i64 0, .int .i64 0, .slice none 0 0]) (t := 47) (by first | (go_simp; done) | (go_simp; rfl)) ?_
    intro g7 hg_ w3 hb_ hB_
    have HB7 := Aside0.mk hb_
    have HG7 : Aside0 (w1.heap.size ≤ g7) := ⟨Nat.le_trans hHeld.2.2.2.2.2.2.out.size (Nat.le_of_eq hg_.symm)⟩
    clear hb_ hg_
    refine hK.out _ _ ⟨pw_cell_below hB_ hHeld.1, pw_cell_below hB_ hHeld.2.1, pw_cell_below hB_ hHeld.2.2.1, pw_cell_below hB_ hHeld.2.2.2.1, pw_cell_below hB_ hHeld.2.2.2.2.1, pw_cell_below hB_ hHeld.2.2.2.2.2.1, ⟨below_then hHeld.2.2.2.2.2.2.out hHeld.2.2.2.2.2.2.out.size hB_⟩⟩ (fun hHeld => ?_)
    clear hK K
    refine norm_ (a' := ?_) ?_ ?_
    rotate_left
    · show Act.put _ (some 7) _ = _
      simp only [ps_]
      rfl
    refine norm_ (by kernel_rfl) (hfin g7 _ ⟨⟨hHeld.2.2.2.2.2.2.out⟩, HB7, HG7⟩)
  · refine box_step (by rfl) (N := 7) rfl (cs := #[.string ⟨#[]⟩, .int .i64 0, .int .i64 0, .slice none 0 0]) (t := 47) (by first | (go_simp; done) | (go_simp; rfl)) ?_
    intro g7 hg_ w3 hb_ hB_
    have HB7 := Aside0.mk hb_
    have HG7 : Aside0 (w1.heap.size ≤ g7) := ⟨Nat.le_trans hHeld.2.2.2.2.2.2.out.size (Nat.le_of_eq hg_.symm)⟩
    clear hb_ hg_
    refine hK.out _ _ ⟨pw_cell_below hB_ hHeld.1, pw_cell_below hB_ hHeld.2.1, pw_cell_below hB_ hHeld.2.2.1, pw_cell_below hB_ hHeld.2.2.2.1, pw_cell_below hB_ hHeld.2.2.2.2.1, pw_cell_below hB_ hHeld.2.2.2.2.2.1, ⟨below_then hHeld.2.2.2.2.2.2.out hHeld.2.2.2.2.2.2.out.size hB_⟩⟩ (fun hHeld => ?_)
    clear hK K
    refine norm_ (a' := ?_) ?_ ?_
    rotate_left
    · show Act.put _ (some 7) _ = _
      simp only [ps_]
      rfl
    refine one_ (i := 10) (N := some 41) #[true, true, true, true, true, true, true, true, true, true, true, false, false, true, false] rfl rfl (by kernel_rfl) (by decide) (fun K hK => ?_)
    refine goes_ Try.func21 (by kernel_rfl) rfl #[.agg #[.slice V.AG V.GS.length V.cG, .slice (some ad) V.F.length V.cF], .string nm] (by rfl) rfl rfl (by first | rfl | (simp only [List.map_toArray, List.map_cons, List.map_nil]; done) | (simp only [List.map_toArray, List.map_cons, List.map_nil]; rfl)) ?_
    refine (fnat_calls V.AG V.cG V.GS (some ad) V.cF V.F nm _ (Kd.C_below HG1.out hHeld.2.2.2.2.2.2.out) HCG.out (Kd.C_below HF1.out hHeld.2.2.2.2.2.2.out) HCF.out HFEW.out).mono ?_
    rw [HPOS.out]
    rintro e_ w2 ⟨rfl, hB_⟩
    have HB7 := Aside0.mk (blk_below HB7.out hB_)
    refine ⟨_, rfl, ?_⟩
    refine hK.out _ _ ⟨pw_cell_below hB_ hHeld.1, pw_cell_below hB_ hHeld.2.1, pw_cell_below hB_ hHeld.2.2.1, pw_cell_below hB_ hHeld.2.2.2.1, pw_cell_below hB_ hHeld.2.2.2.2.1, pw_cell_below hB_ hHeld.2.2.2.2.2.1, ⟨below_then hHeld.2.2.2.2.2.2.out hHeld.2.2.2.2.2.2.out.size hB_⟩⟩ (fun hHeld => ?_)
    clear hK K
    refine norm_ (a' := ?_) ?_ ?_
    rotate_left
    · show Act.put _ (some 41) _ = _
      simp only [ps_]
      rfl
    refine pure_ (i := 11) (N := some 42) (v := ?_) (a' := ?_) #[true, true, true, true, true, true, true, true, true, true, true, true, false, true, false] rfl rfl (by kernel_rfl) (fun _ _ _ h => h) (Or.inl ⟨by rfl, ?_⟩) ?_ ?_
    rotate_left
    · intro w'
      go_simp
      with_reducible rfl
    rotate_left
    · simp only [ps_]
      rfl
    refine take_ (i := 12) (N := some 43) (v := ?_) (a' := ?_) #[true, true, true, true, true, true, true, true, true, true, true, true, true, true, false] rfl rfl (by kernel_rfl) (fun _ _ _ h => h) (Or.inl ⟨by rfl, ?_⟩) hHeld ?_ ?_
    rotate_left
    · rintro w' ⟨h0_, h1_, h2_, h3_, h4_, h5_, h6_⟩
      go_simp
      with_reducible rfl
    rotate_left
    · simp only [ps_]
      rfl
    refine norm_ (by kernel_rfl) (hfin g7 _ ⟨⟨hHeld.2.2.2.2.2.2.out⟩, HB7, HG7⟩)
  intro s w14 ⟨HZ, HB7, HG7⟩
  refine norm_ (a' := ?_) ?_ ?_
  rotate_left
  · simp only [putAll, ps_]
    rfl
  refine last_ (i := 14) (N := none) #[true, true, true, true, true, true, true, true, true, true, true, true, true, true, true] rfl rfl (by kernel_rfl) (by decide) (fun K hK => ?_)
  rw [if_pos (by rfl)]
  refine put_step_ 47 (.tmp 7) (.tmp 43) rfl s (by rfl) 47 #[.string ⟨#[]⟩, .int .i64 0, .int .i64 0, .slice none 0 0] #[.string f.f0, .int .i64 f.f1, .int .i64 f.f2, .slice A3 f.f3.length c3] (by rfl) HB7.out I47.out (by rfl) (by simp [Value.oneCell']) ?_
  intro w2 hr_ hB_ ho_
  have HF7 := Aside0.mk hr_
  have HW2 := Aside0.mk (HZ.out.trans (hB_ _ HG7.out))
  clear hr_ hB_ ho_
  refine hK.out _ _ ?_
  clear hK K
  refine done_ (by kernel_rfl) ?_
  clear m0 m1 q0 q1 q2 q3 hHeld
  have HQ2 := Aside0.mk (HQ1.out.keep_ HW2.out)
  have HA2 := Aside0.mk (Kd.C_below HAW.out HW2.out)
  have HOF := Aside0.mk (HFF.out ▸ HV.out.mid.fns _ (fnOf_mem hkl) : OkFn V.F V.GS f)
  obtain ⟨n, hn⟩ : ∃ n : Nat, f.f2 = (n : Int) := ⟨f.f2.toNat, by have := HOF.out.params; omega⟩
  have hn4 : n ≤ 4096 := by have := HOF.out.regs; omega
  have hna : args.length ≤ n := by have h1_ := HPF.out; rw [HK.out, HFF.out] at h1_; have h2_ := HOF.out.params; omega
  have c72 : w2.cell? ⟨s, 2, none⟩ = some (.int .i64 (n : Int)) := by rw [← hn]; exact (blk_cell HF7.out 2).trans rfl
  have HNN := Aside0.mk hn
  clear hn
  go_wp2_with (first
    | ((with_reducible refine gate_dst (N := 46) rfl ?_)
       refine wp_make32 rfl (.tmp 45) (.tmp 45) rfl n rfl rfl hn4 ?_
       intro w3 h3_ ht3_ hs3_
       have HR3 := Aside0.mk h3_
       have HT3 := Aside0.mk ht3_
       have HS3 := Aside0.mk hs3_
       clear h3_ ht3_ hs3_)
    | fail)
  obtain ⟨rb, hrb⟩ : ∃ rb, w2.heap.size = rb := ⟨_, rfl⟩
  rw [hrb] at HR3 HS3 ⊢
  have HRB := Aside0.mk hrb
  clear hrb
  go_loopg [49] (args.length) (fun kq v wr => ∃ j : Nat, Aside0 (j + kq = args.length) ∧ v = .int .i64 (j : Int) ∧ Aside0 (wr.heap[rb]? = some (.cells (row32 (args.take j ++ List.replicate (n - j) 0)) 21 (0, 0))) ∧ Aside0 (Tr (one rb) w3 wr))
  case atStart => exact ⟨0, ⟨by omega⟩, rfl, ⟨by rw [List.take_zero, Nat.sub_zero]; exact HR3.out⟩, ⟨Tr.refl _ _⟩⟩
  case round =>
    obtain ⟨j, HJ, rfl, HRW, HTW⟩ := hrel
    by_cases hlt : j < args.length
    · cases gk with
      | zero => exact absurd HJ.out (by omega)
      | succ q1 =>
        obtain ⟨aa, hAA, hcell⟩ := Kd.at_int HA2.out (j : Int) (by omega) (by omega)
        rw [Int.toNat_natCast] at hcell
        obtain ⟨z, hz⟩ : ∃ z, rd args (j : Int) = z := ⟨_, rfl⟩
        rw [hz] at hcell
        have hbl := World.block_lt_of_cell? _ _ hcell
        rw [HRB.out] at hbl
        have hcw := HTW.out.cell (HT3.out.cell hcell (fun h => h)) (show ¬ one rb _ from Nat.ne_of_lt hbl)
        have hlen : (args.take j ++ List.replicate (n - j) 0).length = n := by rw [List.length_append, List.length_take, List.length_replicate]; omega
        have cd := row32_cell HRW.out (j : Int) (by omega) (by rw [hlen]; omega)
        rw [Int.toNat_natCast] at cd
        have fd := row32_frozen HRW.out (j : Int)
        rw [Int.toNat_natCast] at fd
        obtain ⟨zd, hzd⟩ : ∃ zd, get32 (args.take j ++ List.replicate (n - j) 0) (j : Int) = zd := ⟨_, rfl⟩
        rw [hzd] at cd
        have hsn : put32 (args.take j ++ List.replicate (n - j) 0) (j : Int) z = args.take (j + 1) ++ List.replicate (n - (j + 1)) 0 := by
          have hz2 : args[j] = z := by rw [← hz]; unfold rd; rw [Int.toNat_natCast, List.getD_eq_getElem?_getD, List.getElem?_eq_getElem hlt]; rfl
          have hnj : n - j = (n - (j + 1)) + 1 := by omega
          unfold put32
          rw [Int.toNat_natCast, List.set_append_right _ _ (by rw [List.length_take]; omega), List.length_take, Nat.min_eq_left (by omega), Nat.sub_self, hnj, List.replicate_succ, List.set_cons_zero, List.take_succ_eq_append_getElem hlt, hz2, List.append_assoc]
          rfl
        have HSN := Aside0.mk hsn
        have hjn : (j : Int) < (n : Int) := by omega
        subst hAA
        clear hcell hz hzd hsn hbl hlen
        go_wp2
        go_roundg q1
        case measure => omega
        case rel => exact ⟨j + 1, ⟨by have := HJ.out; omega⟩, by go_num, ⟨by have h_ := row32_put HRW.out (j : Int) z; rw [HSN.out, Int.toNat_natCast] at h_; exact h_⟩, ⟨HTW.out.set (.inl (one_self rb)) _⟩⟩
    · obtain rfl : j = args.length := by have := HJ.out; omega
      rw [List.take_length] at HRW
      have hsw2 := blk_lt HF7.out
      have hsrb : s < rb := by have := HRB.out; omega
      have hr3 := blk_lt HR3.out
      have offR3 : Off V w3 tv rb := HQ2.out.off HV.out (Nat.le_of_eq HRB.out) hr3
      have hQ3 := HQ2.out.keep HT3.out (fun _ h => h.elim)
      have hQr := hQ3.keep HTW.out (fun q hq => by rw [show q = rb from hq]; exact ⟨offR3.ge, offR3.mb, offR3.db, offR3.bs, offR3.tv⟩)
      have offRr : Off V wr tv rb := offR3.keep_ HTW.out.size
      have offS2 : Off V w2 tv s := HQ1.out.off HV.out HG7.out hsw2
      have offSr : Off V wr tv s := offS2.keep_ (Nat.le_trans HT3.out.size HTW.out.size)
      have fblkr := HTW.out.blk (HT3.out.blk HF7.out (fun h => h)) (show ¬ one rb s from Nat.ne_of_lt hsrb)
      have htr : Tr (V.own tv) W wr := by
        refine (((HA1.out.mono (fun q hq => .inl hq)).then_ (S2 := nil_) (Tr.of_below HW2.out nil_) (fun _ hq => hq.elim)).then_ (S2 := nil_) HT3.out (fun _ hq => hq.elim)).then_ HTW.out (fun q hq => .inr ?_)
        rw [show q = rb from hq, ← HRB.out]
        exact Nat.le_trans HA1.out.size HW2.out.size
      have hlr : (args ++ List.replicate (n - args.length) 0).length = n := by rw [List.length_append, List.length_replicate]; omega
      have hAT : At18 V W wr G G c va tv tv nm args k n rb s #[.string f.f0, .int .i64 f.f1, .int .i64 f.f2, .slice A3 f.f3.length c3] (args ++ List.replicate (n - args.length) 0) 0 0 := by
        refine ⟨hQr, HRW.out, hlr, fun v hv => ?_, offRr, fblkr, offSr, htr, .inl rfl, Nat.le_refl _, by rw [← HRB.out]; exact Nat.le_trans HA1.out.size HW2.out.size, Nat.ne_of_lt hsrb, fun rest d hrest => ?_⟩
        · rcases List.mem_append.1 hv with h | h
          · exact HWA.out v h
          · rw [(List.mem_replicate.1 h).2]; exact W32.zero
        · have e : newFr V.F nm args d = ⟨k, args ++ List.replicate (n - args.length) 0, 0, 0, d⟩ := by
            unfold newFr
            rw [HK.out, HFF.out, HNN.out, Int.toNat_natCast]
          rw [e]
          exact Reach.refl V _
      have HAT := Aside0.mk hAT
      have hf3 := HOF.out.some_
      clear hAT hsw2 hsrb hr3 offR3 hQ3 hQr offRr offS2 offSr fblkr htr hlr c72
      go_wp2
      go_loopg [11] (V.fuel.toNat - G.st) (fun kq v wl => ∃ (G' : Gl) (tv' : Value) (regs : List Int) (blk : Nat), v = .int .i64 (blk : Int) ∧ Aside0 (At18 V W wl G G' c va tv tv' nm args k n rb s #[.string f.f0, .int .i64 f.f1, .int .i64 f.f2, .slice A3 f.f3.length c3] regs blk 0) ∧ Aside0 (blk < f.f3.length) ∧ Aside0 (V.fuel.toNat ≤ G'.st + kq))
      case atStart => exact ⟨G, tv, _, 0, rfl, HAT, ⟨hf3⟩, ⟨by omega⟩⟩
      case round =>
        obtain ⟨G', tv', regs, blk, rfl, HAT2, HBL, HGAS⟩ := hrel
        obtain ⟨gq, HGQ⟩ : ∃ gq, Aside0 (gq = gk) := ⟨gk, ⟨rfl⟩⟩
        have c73 : wr.cell? ⟨s, 3, none⟩ = some (.slice A3 f.f3.length c3) := (blk_cell HAT2.out.fblk 3).trans rfl
        obtain ⟨ab, Ai, ci, hab, b0, b1, b2, b3, b4, hli, hCi⟩ := at_T41 HC3.out (blk : Int) (by omega) (by have := HBL.out; omega)
        subst hab
        rw [show rd_T41 f.f3 (blk : Int) = f.f3.getD blk z41 from by show f.f3.getD ((blk : Int)).toNat z41 = _; rw [Int.toNat_natCast]] at b0 b1 b2 b3 b4 hli hCi
        rw [Int.toNat_natCast] at b0 b1 b2 b3 b4
        obtain ⟨b, hbk⟩ : ∃ b, f.f3.getD blk z41 = b := ⟨_, rfl⟩
        rw [hbk] at b0 b1 b2 b3 b4 hli hCi
        replace b0 := pw_cell_below HAT2.out.inv.below b0
        replace b1 := pw_cell_below HAT2.out.inv.below b1
        replace b2 := pw_cell_below HAT2.out.inv.below b2
        replace b3 := pw_cell_below HAT2.out.inv.below b3
        replace b4 := pw_cell_below HAT2.out.inv.below b4
        have HBK := Aside0.mk hbk
        have HLI := Aside0.mk hli
        have HCI := Aside0.mk hCi
        have hbl := HBL.out
        have hblc : (blk : Int) < (f.f3.length : Int) := by omega
        clear hbk hli hCi
        go_wp2_with (first
          | ((with_reducible refine gate_dst (N := 12) rfl ?_)
             refine box_event rfl (N := 12) rfl (cs := #[.slice none 0 0, .int .i64 0, .int .i64 0, .int .i64 0, .int .i64 0]) (t := 41) ?hr ?_
             case hr => first | (go_simp; done) | (go_simp; rfl)
             intro gb hg wbx hbox hb; have hz0 : wbx.cell? ⟨gb, 0, none⟩ = some (.slice none 0 0) := (blk_cell hbox 0).trans rfl; have hf0 := blk_frozen hbox 0; have hz1 : wbx.cell? ⟨gb, 1, none⟩ = some (.int .i64 0) := (blk_cell hbox 1).trans rfl; have hf1 := blk_frozen hbox 1; have hz2 : wbx.cell? ⟨gb, 2, none⟩ = some (.int .i64 0) := (blk_cell hbox 2).trans rfl; have hf2 := blk_frozen hbox 2; have hz3 : wbx.cell? ⟨gb, 3, none⟩ = some (.int .i64 0) := (blk_cell hbox 3).trans rfl; have hf3 := blk_frozen hbox 3; have hz4 : wbx.cell? ⟨gb, 4, none⟩ = some (.int .i64 0) := (blk_cell hbox 4).trans rfl; have hf4 := blk_frozen hbox 4
             have HG := Aside0.mk (Nat.le_of_eq hg.symm)
             clear hg)
          | ((with_reducible refine gate_store (t := 41) (p := 12) rfl ?_)
             refine store_event (w1 := (((((wbx.setCell ⟨gb, 0, none⟩ (.slice Ai b.f0.length ci)).setCell ⟨gb, 1, none⟩ (.int .i64 b.f1)).setCell ⟨gb, 2, none⟩ (.int .i64 b.f2)).setCell ⟨gb, 3, none⟩ (.int .i64 b.f3)).setCell ⟨gb, 4, none⟩ (.int .i64 b.f4))) rfl (t := 41) (p := 12) rfl rfl ?hr ?_
             case hr => first | (go_simp; done) | (go_simp; rfl)
             intro wb hw
             have hcb := hw ▸ fill5 (g := gb) hbox
             have hbl2 := hw ▸ fillB5 (g := gb) hb HG.out
             have HAT3 := Aside0.mk (HAT2.out.keep_ hbl2)
             have HB3 := Aside0.mk hcb
             have HOB3 := Aside0.mk (HAT2.out.inv.off HV.out HG.out (blk_lt hcb))
             have d0 : wb.cell? ⟨gb, 0, none⟩ = some (.slice Ai b.f0.length ci) := (blk_cell hcb 0).trans rfl
             clear hcb hbl2 hw hbox hb hz0 hf0 hz1 hf1 hz2 hf2 hz3 hf3 hz4 hf4)
          | fail)
        have HATB := HAT3
        go_loopg [67] (b.f0.length) (fun kq v wi => ∃ (G2 : Gl) (tv2 : Value) (regs2 : List Int) (ins : Nat), v = .int .i64 (ins : Int) ∧ Aside0 (At18 V W wi G G2 c va tv tv2 nm args k n rb s #[.string f.f0, .int .i64 f.f1, .int .i64 f.f2, .slice (some ab) f.f3.length c3] regs2 blk ins) ∧ Aside0 (ins + kq = b.f0.length) ∧ Aside0 (wi.heap[gb]? = some (.cells #[.slice Ai b.f0.length ci, .int .i64 b.f1, .int .i64 b.f2, .int .i64 b.f3, .int .i64 b.f4] 41 (0, 0))) ∧ Aside0 (Off V wi tv2 gb) ∧ Aside0 (G'.st ≤ G2.st) ∧ Aside0 (gb ≠ rb))
        case atStart => exact ⟨G', tv', regs, 0, rfl, HAT3, ⟨Nat.zero_add _⟩, HB3, HOB3, ⟨Nat.le_refl _⟩, ⟨fun e => by have h1_ := HAT2.out.offR.lt; have h2_ := HG.out; omega⟩⟩
        case round =>
          obtain ⟨G2, tv2, regs2, ins, rfl, HAT4, HINS, HB4, HOB4, HST4, HNE4⟩ := hrel
          have d40 : wr.cell? ⟨gb, 0, none⟩ = some (.slice Ai b.f0.length ci) := (blk_cell HB4.out 0).trans rfl
          by_cases hlt : ins < b.f0.length
          · cases gk with
            | zero => exact absurd HINS.out (by omega)
            | succ q1 =>
              obtain ⟨ax, A7, c7, hax, e0, e1, e2, e3, e4, e5, e6, e7, hl7, hC7⟩ := at_T44 HCI.out (ins : Int) (by omega) (by omega)
              subst hax
              rw [show rd_T44 b.f0 (ins : Int) = b.f0.getD ins z44 from by show b.f0.getD ((ins : Int)).toNat z44 = _; rw [Int.toNat_natCast]] at e0 e1 e2 e3 e4 e5 e6 e7 hl7 hC7
              rw [Int.toNat_natCast] at e0 e1 e2 e3 e4 e5 e6 e7
              have hxg : b.f0[ins]? = some (b.f0.getD ins z44) := by rw [List.getD_eq_getElem?_getD, List.getElem?_eq_getElem hlt]; rfl
              obtain ⟨x, hx⟩ : ∃ x, b.f0.getD ins z44 = x := ⟨_, rfl⟩
              rw [hx] at e0 e1 e2 e3 e4 e5 e6 e7 hl7 hC7 hxg
              have B4 := HAT4.out.inv.below
              replace e0 := pw_cell_below B4 e0
              replace e1 := pw_cell_below B4 e1
              replace e2 := pw_cell_below B4 e2
              replace e3 := pw_cell_below B4 e3
              replace e4 := pw_cell_below B4 e4
              replace e5 := pw_cell_below B4 e5
              replace e6 := pw_cell_below B4 e6
              replace e7 := pw_cell_below B4 e7
              have HXG := Aside0.mk hxg
              have HL7 := Aside0.mk hl7
              have HC7 := Aside0.mk hC7
              clear hx hxg hl7 hC7 B4
              have hltc : (ins : Int) < (b.f0.length : Int) := by omega
              by_cases hfu : V.fuel ≤ (G2.st : Int)
              · have HFU : Aside0 (V.E.fuel ≤ (G2.st : Int)) := ⟨hfu⟩
                have HC32 : Aside0 (c ≠ 32) := ⟨by omega⟩
                go_wp2_with (first
                  | ((with_reducible refine gate_dst (N := 14) rfl ?_)
                     refine box_event rfl (N := 14) rfl (cs := #[.int .i64 0, .int .i64 0, .int .i64 0, .int .i64 0, .int .i64 0, .int .i32 0, .string (⟨#[]⟩ : ByteArray), .slice none 0 0]) (t := 44) ?hr ?_
                     case hr => first | (go_simp; done) | (go_simp; rfl)
                     intro gx hg wxx hbox hb; have hz0 : wxx.cell? ⟨gx, 0, none⟩ = some (.int .i64 0) := (blk_cell hbox 0).trans rfl; have hf0 := blk_frozen hbox 0; have hz1 : wxx.cell? ⟨gx, 1, none⟩ = some (.int .i64 0) := (blk_cell hbox 1).trans rfl; have hf1 := blk_frozen hbox 1; have hz2 : wxx.cell? ⟨gx, 2, none⟩ = some (.int .i64 0) := (blk_cell hbox 2).trans rfl; have hf2 := blk_frozen hbox 2; have hz3 : wxx.cell? ⟨gx, 3, none⟩ = some (.int .i64 0) := (blk_cell hbox 3).trans rfl; have hf3 := blk_frozen hbox 3; have hz4 : wxx.cell? ⟨gx, 4, none⟩ = some (.int .i64 0) := (blk_cell hbox 4).trans rfl; have hf4 := blk_frozen hbox 4; have hz5 : wxx.cell? ⟨gx, 5, none⟩ = some (.int .i32 0) := (blk_cell hbox 5).trans rfl; have hf5 := blk_frozen hbox 5; have hz6 : wxx.cell? ⟨gx, 6, none⟩ = some (.string (⟨#[]⟩ : ByteArray)) := (blk_cell hbox 6).trans rfl; have hf6 := blk_frozen hbox 6; have hz7 : wxx.cell? ⟨gx, 7, none⟩ = some (.slice none 0 0) := (blk_cell hbox 7).trans rfl; have hf7 := blk_frozen hbox 7
                     have HG := Aside0.mk (Nat.le_of_eq hg.symm)
                     clear hg)
                  | ((with_reducible refine gate_store (t := 44) (p := 14) rfl ?_)
                     refine store_event (w1 := ((((((((wxx.setCell ⟨gx, 0, none⟩ (.int .i64 x.f0)).setCell ⟨gx, 1, none⟩ (.int .i64 x.f1)).setCell ⟨gx, 2, none⟩ (.int .i64 x.f2)).setCell ⟨gx, 3, none⟩ (.int .i64 x.f3)).setCell ⟨gx, 4, none⟩ (.int .i64 x.f4)).setCell ⟨gx, 5, none⟩ (.int .i32 x.f5)).setCell ⟨gx, 6, none⟩ (.string x.f6)).setCell ⟨gx, 7, none⟩ (.slice A7 x.f7.length c7))) rfl (t := 44) (p := 14) rfl rfl ?hr ?_
                     case hr => first | (go_simp; done) | (go_simp; rfl)
                     intro wx hw
                     have hcb := hw ▸ fill8 (g := gx) hbox
                     have hbl3 := hw ▸ fillB8 (g := gx) hb HG.out
                     have HAT5 := Aside0.mk (HAT4.out.keep_ hbl3)
                     have HX5 := Aside0.mk hcb
                     have HB5 := Aside0.mk (blk_below HB4.out hbl3)
                     have HOB5 := Aside0.mk (HOB4.out.keep_ hbl3.size)
                     have HOX5 := Aside0.mk (HAT4.out.inv.off HV.out HG.out (blk_lt hcb))
                     clear hcb hbl3 hw hbox hb hz0 hf0 hz1 hf1 hz2 hf2 hz3 hf3 hz4 hf4 hz5 hf5 hz6 hf6 hz7 hf7)
                  | (go_at_call 28; (with_reducible refine (rstep_open V.E (c + 1) va tv2 G2.st G2.rd wx V.mb HAT5.out.inv.m HFU.out).mono ?_)
                     rintro e wy ⟨rfl, ht⟩
                     have HREL := Aside0.mk (HAT5.out.open_ HV.out HC32.out hfu ht)
                     clear ht)
                  | fail)
                go_ret
                exact ⟨0, rfl, HREL.out⟩
              · have HFU : Aside0 (¬ V.E.fuel ≤ (G2.st : Int)) := ⟨hfu⟩
                have HFV : Aside0 (¬ V.fuel ≤ (G2.st : Int)) := ⟨hfu⟩
                have HSTB : Aside0 ((G2.st : Int) ≤ 1000000) := ⟨by have h_ := HAT4.out.inv.stl; omega⟩
                have HC32 : Aside0 (c ≠ 32) := ⟨by omega⟩
                have HCC : Aside0 (0 ≤ c + 1 ∧ c + 1 ≤ 32) := ⟨by omega⟩
                have HXB : Aside0 (((fnOf V.F k).f3.getD blk z41).f0[ins]? = some x) := ⟨by rw [HFF.out, HBK.out]; exact HXG.out⟩
                have HXO : Aside0 (OkIns V.F V.GS (n : Int) x) := ⟨by
                  have h1_ := HOF.out.blks b (by rw [← HBK.out, getD_at HBL.out]; exact List.getElem_mem HBL.out)
                  rw [← HNN.out]
                  exact h1_.ins x (List.mem_of_getElem? HXG.out)⟩
                obtain ⟨N1, hN1⟩ : ∃ N1, N = N1 + 1 := ⟨N - 1, by have h1_ := HN.out; have h2_ := HAT4.out.st; omega⟩
                have HC1 : Aside0 (CallOk V N1) := ⟨HC.out N1 (by omega)⟩
                have HN1 : Aside0 (V.fuel.toNat ≤ G2.tick.st + N1) := ⟨by have h1_ := HN.out; have h2_ := HAT4.out.st; show _ ≤ G2.st + 1 + N1; omega⟩
                have HTL : Aside0 (G2.tick.tr.length < G2.tick.st) := ⟨Nat.lt_succ_of_le HAT4.out.inv.trl⟩
                clear hN1
                go_wp2_with (first
                  | ((with_reducible refine gate_dst (N := 14) rfl ?_)
                     refine box_event rfl (N := 14) rfl (cs := #[.int .i64 0, .int .i64 0, .int .i64 0, .int .i64 0, .int .i64 0, .int .i32 0, .string (⟨#[]⟩ : ByteArray), .slice none 0 0]) (t := 44) ?hr ?_
                     case hr => first | (go_simp; done) | (go_simp; rfl)
                     intro gx hg wxx hbox hb; have hz0 : wxx.cell? ⟨gx, 0, none⟩ = some (.int .i64 0) := (blk_cell hbox 0).trans rfl; have hf0 := blk_frozen hbox 0; have hz1 : wxx.cell? ⟨gx, 1, none⟩ = some (.int .i64 0) := (blk_cell hbox 1).trans rfl; have hf1 := blk_frozen hbox 1; have hz2 : wxx.cell? ⟨gx, 2, none⟩ = some (.int .i64 0) := (blk_cell hbox 2).trans rfl; have hf2 := blk_frozen hbox 2; have hz3 : wxx.cell? ⟨gx, 3, none⟩ = some (.int .i64 0) := (blk_cell hbox 3).trans rfl; have hf3 := blk_frozen hbox 3; have hz4 : wxx.cell? ⟨gx, 4, none⟩ = some (.int .i64 0) := (blk_cell hbox 4).trans rfl; have hf4 := blk_frozen hbox 4; have hz5 : wxx.cell? ⟨gx, 5, none⟩ = some (.int .i32 0) := (blk_cell hbox 5).trans rfl; have hf5 := blk_frozen hbox 5; have hz6 : wxx.cell? ⟨gx, 6, none⟩ = some (.string (⟨#[]⟩ : ByteArray)) := (blk_cell hbox 6).trans rfl; have hf6 := blk_frozen hbox 6; have hz7 : wxx.cell? ⟨gx, 7, none⟩ = some (.slice none 0 0) := (blk_cell hbox 7).trans rfl; have hf7 := blk_frozen hbox 7
                     have HG := Aside0.mk (Nat.le_of_eq hg.symm)
                     clear hg)
                  | ((with_reducible refine gate_store (t := 44) (p := 14) rfl ?_)
                     refine store_event (w1 := ((((((((wxx.setCell ⟨gx, 0, none⟩ (.int .i64 x.f0)).setCell ⟨gx, 1, none⟩ (.int .i64 x.f1)).setCell ⟨gx, 2, none⟩ (.int .i64 x.f2)).setCell ⟨gx, 3, none⟩ (.int .i64 x.f3)).setCell ⟨gx, 4, none⟩ (.int .i64 x.f4)).setCell ⟨gx, 5, none⟩ (.int .i32 x.f5)).setCell ⟨gx, 6, none⟩ (.string x.f6)).setCell ⟨gx, 7, none⟩ (.slice A7 x.f7.length c7))) rfl (t := 44) (p := 14) rfl rfl ?hr ?_
                     case hr => first | (go_simp; done) | (go_simp; rfl)
                     intro wx hw
                     have hcb := hw ▸ fill8 (g := gx) hbox
                     have hbl3 := hw ▸ fillB8 (g := gx) hb HG.out
                     have HAT5 := Aside0.mk (HAT4.out.keep_ hbl3)
                     have HX5 := Aside0.mk hcb
                     have HB5 := Aside0.mk (blk_below HB4.out hbl3)
                     have HOB5 := Aside0.mk (HOB4.out.keep_ hbl3.size)
                     have HOX5 := Aside0.mk (HAT4.out.inv.off HV.out HG.out (blk_lt hcb))
                     clear hcb hbl3 hw hbox hb hz0 hf0 hz1 hf1 hz2 hf2 hz3 hf3 hz4 hf4 hz5 hf5 hz6 hf6 hz7 hf7)
                  | (go_at_call 28; (with_reducible refine (rstep_go V.E (c + 1) va tv2 G2.st G2.rd wx V.mb HAT5.out.inv.m HFU.out HSTB.out).mono ?_)
                     rintro e wy ⟨rfl, ht⟩
                     have HTY := Aside0.mk ht
                     have HTK := Aside0.mk (HAT5.out.ticked HV.out (by have h_ := HFV.out; omega) ht)
                     have hx6 := ht.2.blk HX5.out (fun hq => HOX5.out.mb hq)
                     have HI29 := Aside0.mk (ins_any HV.out HTK.out.1 HAT5.out.len HTK.out.2.1 HTK.out.2.2.2.1 HAT5.out.w32 x A7 c7 HL7.out (Kd.C_below HC7.out HTK.out.1.below) HXO.out HTL.out HCC.out.1 HCC.out.2 HN1.out HC1.out)
                     have z0 : wy.cell? ⟨gx, 0, none⟩ = some (.int .i64 x.f0) := (blk_cell hx6 0).trans rfl
                     have z1 : wy.cell? ⟨gx, 1, none⟩ = some (.int .i64 x.f1) := (blk_cell hx6 1).trans rfl
                     have z2 : wy.cell? ⟨gx, 2, none⟩ = some (.int .i64 x.f2) := (blk_cell hx6 2).trans rfl
                     have z3 : wy.cell? ⟨gx, 3, none⟩ = some (.int .i64 x.f3) := (blk_cell hx6 3).trans rfl
                     have z4 : wy.cell? ⟨gx, 4, none⟩ = some (.int .i64 x.f4) := (blk_cell hx6 4).trans rfl
                     have z5 : wy.cell? ⟨gx, 5, none⟩ = some (.int .i32 x.f5) := (blk_cell hx6 5).trans rfl
                     have z6 : wy.cell? ⟨gx, 6, none⟩ = some (.string x.f6) := (blk_cell hx6 6).trans rfl
                     have z7 : wy.cell? ⟨gx, 7, none⟩ = some (.slice A7 x.f7.length c7) := (blk_cell hx6 7).trans rfl
                     clear ht hx6)
                  | (go_at_call 29; (with_reducible refine HI29.out.mono ?_)
                     rintro e wz ⟨rfl, tv3, G3, hT, hv, hst, hres⟩
                     have HB7_ := Aside0.mk (hT.blk (HTY.out.2.blk HB5.out (fun hq => HOB5.out.mb hq)) (fun hh => hh.elim (fun e => HNE4.out e) (fun hh => hh.elim HOB5.out.mb (fun hh => hh.elim HOB5.out.bs HOB5.out.tv))))
                     have HOB7 := Aside0.mk ((HOB5.out.keep_ HTY.out.2.size).step hT.size hv)
                     have HST3 : Aside0 (G2.st + 1 ≤ G3.st) := ⟨hst⟩
                     rcases hres with ⟨r, hq, hrow, hl, hw3, hre⟩ | ⟨en, c2, hne, hq, hre⟩
                     rotate_left
                     have HEND := Aside0.mk (HAT5.out.insEnd HV.out HC32.out (by have h_ := HFV.out; omega) HTY.out HXB.out hT hv hst hne hq hre)
                     have cen : wz.cell? ⟨V.mb, 6, none⟩ = some (.int .i64 en) := (blk_cell hq.m 6).trans rfl
                     have den : (en != 0) = true := by rw [bne_iff_ne]; exact hne
                     have den2 : decide (en = 0) = false := decide_eq_false hne
                     clear hT hv hst hq hre
                     rotate_left
                     have HATN := Aside0.mk (HAT5.out.ins_ HV.out (by have h_ := HFV.out; omega) HTY.out HXB.out hT hv hst hq hrow hl hw3 hre)
                     have cen : wz.cell? ⟨V.mb, 6, none⟩ = some (.int .i64 0) := (blk_cell hq.m 6).trans rfl
                     clear hT hv hst hq hrow hl hw3 hre)
                  | fail)
                · go_roundg q1
                  case measure => omega
                  case rel => exact ⟨G3, tv3, r, ins + 1, nxt hlt (Kd.C_max HCI.out), HATN, ⟨by have := HINS.out; omega⟩, HB7_, HOB7, ⟨by have h1_ := HST3.out; have h2_ := HST4.out; omega⟩, HNE4⟩
                · go_ret
                  exact ⟨0, rfl, HEND.out⟩
          · obtain hge : ins = b.f0.length := by have := HINS.out; omega
            have HNO : Aside0 (b.f0[ins]? = none) := ⟨List.getElem?_eq_none (by omega)⟩
            have HFB : Aside0 ((fnOf V.F k).f3.getD blk z41 = b) := ⟨by rw [HFF.out]; exact HBK.out⟩
            have HC32 : Aside0 (c ≠ 32) := ⟨by omega⟩
            by_cases hfu : V.fuel ≤ (G2.st : Int)
            · have HFU : Aside0 (V.E.fuel ≤ (G2.st : Int)) := ⟨hfu⟩
              go_wp2_with (first
                | (go_at_call 28; (with_reducible refine (rstep_open V.E (c + 1) va tv2 G2.st G2.rd wr V.mb HAT4.out.inv.m HFU.out).mono ?_)
                   rintro e wy ⟨rfl, ht⟩
                   have HREL := Aside0.mk (HAT4.out.open_ HV.out HC32.out hfu ht)
                   clear ht)
                | fail)
              go_ret
              exact ⟨0, rfl, HREL.out⟩
            · have HFU : Aside0 (¬ V.E.fuel ≤ (G2.st : Int)) := ⟨hfu⟩
              have HFV : Aside0 ((G2.st : Int) < V.fuel) := ⟨by omega⟩
              have HSTB : Aside0 ((G2.st : Int) ≤ 1000000) := ⟨by have h_ := HAT4.out.inv.stl; omega⟩
              have HOB : Aside0 (OkBlk V.F V.GS f b) := ⟨HOF.out.blks b (by rw [← HBK.out, getD_at HBL.out]; exact List.getElem_mem HBL.out)⟩
              rcases HOB.out.kind with e1 | e1 | e1
              · have HE1 := Aside0.mk e1
                obtain ⟨t3, ht3⟩ : ∃ t3 : Nat, b.f3 = (t3 : Int) := ⟨b.f3.toNat, by have h_ := (HOB.out.to1 (.inl e1)).1; omega⟩
                have HT3_ := Aside0.mk ht3
                have HL3_ : Aside0 (t3 < f.f3.length) := ⟨by have h_ := (HOB.out.to1 (.inl e1)).2; omega⟩
                clear ht3 e1
                go_wp2_with (first
                  | (go_at_call 28; (with_reducible refine (rstep_go V.E (c + 1) va tv2 G2.st G2.rd wr V.mb HAT4.out.inv.m HFU.out HSTB.out).mono ?_)
                     rintro e wy ⟨rfl, ht⟩
                     have HTY := Aside0.mk ht
                     have hb6 := ht.2.blk HB4.out (fun hq => HOB4.out.mb hq)
                     have d1 : wy.cell? ⟨gb, 1, none⟩ = some (.int .i64 1) := by rw [← HE1.out]; exact (blk_cell hb6 1).trans rfl
                     have d2 : wy.cell? ⟨gb, 2, none⟩ = some (.int .i64 b.f2) := (blk_cell hb6 2).trans rfl
                     have d3 : wy.cell? ⟨gb, 3, none⟩ = some (.int .i64 (t3 : Int)) := by rw [← HT3_.out]; exact (blk_cell hb6 3).trans rfl
                     have d4 : wy.cell? ⟨gb, 4, none⟩ = some (.int .i64 b.f4) := (blk_cell hb6 4).trans rfl
                     skip
                     clear ht hb6)
                  | fail)
                go_roundg (gq - 1)
                case measure => have h1_ := HGQ.out; have h2_ := HGAS.out; have h3_ := HFV.out; have h4_ := HST4.out; omega
                case rel => exact ⟨G2.tick, tv2, regs2, t3, rfl, ⟨HAT4.out.jump HV.out (by have h_ := HFV.out; omega) HTY.out HFB.out HNO.out (.inl ⟨HE1.out, HT3_.out⟩)⟩, HL3_, ⟨by have h1_ := HGQ.out; have h2_ := HGAS.out; have h3_ := HFV.out; have h4_ := HST4.out; show _ ≤ G2.st + 1 + _; omega⟩⟩
              · have HE1 := Aside0.mk e1
                have HA0 : Aside0 (0 ≤ b.f2) := ⟨(HOB.out.a (.inl e1)).1⟩
                have HA1_ : Aside0 (b.f2 < (regs2.length : Int)) := ⟨by rw [HAT4.out.len, ← HNN.out]; exact (HOB.out.a (.inl e1)).2⟩
                have ha0 := HA0.out
                have ha1 : b.f2 < (n : Int) := by rw [← HNN.out]; exact (HOB.out.a (.inl e1)).2
                clear e1
                by_cases hz : get32 regs2 b.f2 = 0
                · obtain ⟨t3, ht3⟩ : ∃ t3 : Nat, b.f4 = (t3 : Int) := ⟨b.f4.toNat, by have h_ := (HOB.out.to2 HE1.out).1; omega⟩
                  have HT3_ := Aside0.mk ht3
                  have HL3_ : Aside0 (t3 < f.f3.length) := ⟨by have h_ := (HOB.out.to2 HE1.out).2; omega⟩
                  clear ht3
                  have HVV : Aside0 (get32 regs2 b.f2 = 0) := ⟨hz⟩
                  go_wp2_with (first
                    | (go_at_call 28; (with_reducible refine (rstep_go V.E (c + 1) va tv2 G2.st G2.rd wr V.mb HAT4.out.inv.m HFU.out HSTB.out).mono ?_)
                       rintro e wy ⟨rfl, ht⟩
                       have HTY := Aside0.mk ht
                       have HTK := Aside0.mk (HAT4.out.ticked HV.out (by have h_ := HFV.out; omega) ht)
                       have hb6 := ht.2.blk HB4.out (fun hq => HOB4.out.mb hq)
                       have d1 : wy.cell? ⟨gb, 1, none⟩ = some (.int .i64 2) := by rw [← HE1.out]; exact (blk_cell hb6 1).trans rfl
                       have d2 : wy.cell? ⟨gb, 2, none⟩ = some (.int .i64 b.f2) := (blk_cell hb6 2).trans rfl
                       have d3 : wy.cell? ⟨gb, 3, none⟩ = some (.int .i64 b.f3) := (blk_cell hb6 3).trans rfl
                       have d4 : wy.cell? ⟨gb, 4, none⟩ = some (.int .i64 (t3 : Int)) := by rw [← HT3_.out]; exact (blk_cell hb6 4).trans rfl
                       have cr := row32_cell HTK.out.2.1 b.f2 HA0.out HA1_.out
                       rw [HVV.out] at cr
                       skip
                       clear ht hb6)
                    | fail)
                  go_roundg (gq - 1)
                  case measure => have h1_ := HGQ.out; have h2_ := HGAS.out; have h3_ := HFV.out; have h4_ := HST4.out; omega
                  case rel => exact ⟨G2.tick, tv2, regs2, t3, rfl, ⟨HAT4.out.jump HV.out (by have h_ := HFV.out; omega) HTY.out HFB.out HNO.out (.inr ⟨HE1.out, by rw [if_pos HVV.out]; exact HT3_.out⟩)⟩, HL3_, ⟨by have h1_ := HGQ.out; have h2_ := HGAS.out; have h3_ := HFV.out; have h4_ := HST4.out; show _ ≤ G2.st + 1 + _; omega⟩⟩
                · obtain ⟨t3, ht3⟩ : ∃ t3 : Nat, b.f3 = (t3 : Int) := ⟨b.f3.toNat, by have h_ := (HOB.out.to1 (.inr HE1.out)).1; omega⟩
                  have HT3_ := Aside0.mk ht3
                  have HL3_ : Aside0 (t3 < f.f3.length) := ⟨by have h_ := (HOB.out.to1 (.inr HE1.out)).2; omega⟩
                  clear ht3
                  obtain ⟨v, hv⟩ : ∃ v, get32 regs2 b.f2 = v := ⟨_, rfl⟩
                  have HVV := Aside0.mk hv
                  have hv0 : (v != 0) = true := by rw [bne_iff_ne, ← hv]; exact hz
                  have HZ0 := Aside0.mk hz
                  clear hv hz
                  go_wp2_with (first
                    | (go_at_call 28; (with_reducible refine (rstep_go V.E (c + 1) va tv2 G2.st G2.rd wr V.mb HAT4.out.inv.m HFU.out HSTB.out).mono ?_)
                       rintro e wy ⟨rfl, ht⟩
                       have HTY := Aside0.mk ht
                       have HTK := Aside0.mk (HAT4.out.ticked HV.out (by have h_ := HFV.out; omega) ht)
                       have hb6 := ht.2.blk HB4.out (fun hq => HOB4.out.mb hq)
                       have d1 : wy.cell? ⟨gb, 1, none⟩ = some (.int .i64 2) := by rw [← HE1.out]; exact (blk_cell hb6 1).trans rfl
                       have d2 : wy.cell? ⟨gb, 2, none⟩ = some (.int .i64 b.f2) := (blk_cell hb6 2).trans rfl
                       have d3 : wy.cell? ⟨gb, 3, none⟩ = some (.int .i64 (t3 : Int)) := by rw [← HT3_.out]; exact (blk_cell hb6 3).trans rfl
                       have d4 : wy.cell? ⟨gb, 4, none⟩ = some (.int .i64 b.f4) := (blk_cell hb6 4).trans rfl
                       have cr := row32_cell HTK.out.2.1 b.f2 HA0.out HA1_.out
                       rw [HVV.out] at cr
                       skip
                       clear ht hb6)
                    | fail)
                  go_roundg (gq - 1)
                  case measure => have h1_ := HGQ.out; have h2_ := HGAS.out; have h3_ := HFV.out; have h4_ := HST4.out; omega
                  case rel => exact ⟨G2.tick, tv2, regs2, t3, rfl, ⟨HAT4.out.jump HV.out (by have h_ := HFV.out; omega) HTY.out HFB.out HNO.out (.inr ⟨HE1.out, by rw [if_neg HZ0.out]; exact HT3_.out⟩)⟩, HL3_, ⟨by have h1_ := HGQ.out; have h2_ := HGAS.out; have h3_ := HFV.out; have h4_ := HST4.out; show _ ≤ G2.st + 1 + _; omega⟩⟩
              · have HE1 := Aside0.mk e1
                have HA0 : Aside0 (0 ≤ b.f2) := ⟨(HOB.out.a (.inr e1)).1⟩
                have HA1_ : Aside0 (b.f2 < (regs2.length : Int)) := ⟨by rw [HAT4.out.len, ← HNN.out]; exact (HOB.out.a (.inr e1)).2⟩
                have ha0 := HA0.out
                have ha1 : b.f2 < (n : Int) := by rw [← HNN.out]; exact (HOB.out.a (.inr e1)).2
                clear e1
                obtain ⟨v, hv⟩ : ∃ v, get32 regs2 b.f2 = v := ⟨_, rfl⟩
                have HVV := Aside0.mk hv
                have hcw : wrap64 (c + 1 - 1) = c := by rw [w64 (by omega) (by omega)]; omega
                clear hv
                go_wp2_with (first
                  | (go_at_call 28; (with_reducible refine (rstep_go V.E (c + 1) va tv2 G2.st G2.rd wr V.mb HAT4.out.inv.m HFU.out HSTB.out).mono ?_)
                     rintro e wy ⟨rfl, ht⟩
                     have HTY := Aside0.mk ht
                     have HTK := Aside0.mk (HAT4.out.ticked HV.out (by have h_ := HFV.out; omega) ht)
                     have hb6 := ht.2.blk HB4.out (fun hq => HOB4.out.mb hq)
                     have d1 : wy.cell? ⟨gb, 1, none⟩ = some (.int .i64 3) := by rw [← HE1.out]; exact (blk_cell hb6 1).trans rfl
                     have d2 : wy.cell? ⟨gb, 2, none⟩ = some (.int .i64 b.f2) := (blk_cell hb6 2).trans rfl
                     have d3 : wy.cell? ⟨gb, 3, none⟩ = some (.int .i64 b.f3) := (blk_cell hb6 3).trans rfl
                     have d4 : wy.cell? ⟨gb, 4, none⟩ = some (.int .i64 b.f4) := (blk_cell hb6 4).trans rfl
                     have cr := row32_cell HTK.out.2.1 b.f2 HA0.out HA1_.out
                     rw [HVV.out] at cr
                     have m5 : wy.cell? ⟨V.mb, 5, none⟩ = some (.int .i64 (c + 1)) := (blk_cell HTK.out.1.m 5).trans rfl
                     have fm5 := blk_frozen HTK.out.1.m 5
                     have cr2 : ∀ u, (wy.setCell ⟨V.mb, 5, none⟩ u).cell? ⟨rb, b.f2.toNat, none⟩ = some (.int .i32 v) := fun u => by rw [World.cell?_setCell_far _ _ _ _ (fun h => HTK.out.2.2.2.1.mb h.symm)]; exact cr
                     clear ht hb6)
                  | fail)
                go_ret
                have ht2 : Turned wy (wy.setCell ⟨V.mb, 5, none⟩ (.int .i64 c)) V.mb (rC V.E ⟨c, 0, va, tv2, G2.st + 1, G2.rd⟩) 61 := ⟨blk_put HTK.out.1.m 5 _ (by simp [rC, Gl.tick]), (Tr.refl (one V.mb) wy).set (.inl (one_self V.mb)) _⟩
                have hrel := HAT4.out.leave HV.out HC32.out (by have h_ := HFV.out; omega) HTY.out ht2 HFB.out HNO.out HE1.out
                rw [HVV.out] at hrel
                exact ⟨v, rfl, hrel⟩
end Go.Proofs.Ytabkinlpbefjgaa.L

namespace Go.Proofs.Ytabkinlpbefjgaa.L
open Go.RowKit Go.Proofs.Ytabkinlpbefjgaa.X Go.Proofs.YtabkinlpbefjgaaW.PrintWords Go.Proofs.YtabkinlpbefjgaaW.PrintLast Go.Proofs.YtabkinlpbefjgaaW.PrintMore
attribute [local go_sem] max2_int min2_int max_two min_two max_three min_three max_four min_four   -- for this text's walks alone
set_option linter.unusedVariables false
set_option linter.unusedSimpArgs false
open Go.Proofs.Ytabkinlpbefjgaa.Pure
theorem rcall {V : Qv} (hV : QvOk V) : ∀ N, CallOk V N := by
  intro N
  induction N using Nat.strongRecOn with
  | ind N ih =>
    intro W G c va tv nm args AR cR hQ hc0 hc32 hN hnm hf1 hwa hA hl
    by_cases hc : c = 32
    · exact rcall_full hV hQ nm args AR cR hc
    · exact rcall_go hV hQ nm args AR cR hc0 (by omega) hnm hf1 hwa hA hl hN ih
theorem rmain {V : Qv} (hV : QvOk V) {W : World} {va : Int} {tv : Value} (hQ : QInv V W (Gl.start V.GS) 0 0 va tv) :
    Calls Try.prog 18 #[.pointer (some ⟨V.mb, 0, none⟩), .string mainB, .slice none 0 0] W fun e w' => ∃ v, e = .returned (.int .i32 v) ∧ ∃ tv' G2, Below V.w0.heap.size W w' ∧ Tr (V.own tv) W w' ∧ W32 v ∧ ((QInv V w' G2 0 0 va tv' ∧ runT V.F V.GS V.inp V.fuel = .fin 1 v G2) ∨ (∃ en c2, en ≠ 0 ∧ QInv V w' G2 c2 en va tv' ∧ runT V.F V.GS V.inp V.fuel = .fin en 0 G2)) := by
  refine (rcall hV V.fuel.toNat W (Gl.start V.GS) 0 va tv mainB [] none 0 hQ (by decide) (by decide) (by show _ ≤ 0 + _; omega) hV.mid.main hV.mid.main0 (fun v hv => by cases hv) (Kd.C_nil _ _) (Nat.le_refl 0)).mono ?_
  rintro e w' ⟨v, he, tv', G2, hT, hv, hv32, hst, hres⟩
  have hb : Below V.w0.heap.size W w' := hT.to_below hQ.below.size (fun q hq => hq.elim (fun h => by rw [h]; exact hV.gem) (fun hq => hq.elim (fun h => hV.geb q h) (fun h => (own_ge1 hQ.tr q h.symm).1)))
  have hend : ∀ {en : Int} {u : Int} {G3 : Gl}, Reach V (.go [newFr V.F mainB [] (-1)] (Gl.start V.GS)) (.fin en u G3) → runT V.F V.GS V.inp V.fuel = .fin en u G3 := by
    intro en u G3 h
    cases hr : runT V.F V.GS V.inp V.fuel with
    | fin e2 v2 G4 =>
      obtain ⟨a, b, d⟩ := h.end_ (n := V.fuel.toNat + 1) hr
      rw [a, b, d]
    | go s G4 =>
      rw [runT_eq] at hr
      cases hx : runE V.F V.GS V.inp V.fuel.toNat with
      | go s2 G5 => rw [hx] at hr; cases hr
      | fin e3 v3 G5 => rw [hx] at hr; cases hr
  refine ⟨v, he, tv', G2, hb, hT, hv32, ?_⟩
  rcases hres with ⟨_, hq, hre⟩ | ⟨en, c2, hne, hq, hre⟩
  · exact .inl ⟨hq, hend (hre [] (-1) rfl)⟩
  · rcases hre with ⟨h32, _, _⟩ | ⟨_, hre⟩
    · exact absurd h32 (by decide)
    · exact .inr ⟨en, c2, hne, hq, hend (hre [] (-1) rfl)⟩
end Go.Proofs.Ytabkinlpbefjgaa.L

namespace Go.Proofs.Ytabkinlpbefjgaa.L
open Go.RowKit Go.Proofs.Ytabkinlpbefjgaa.X Go.Proofs.YtabkinlpbefjgaaW.PrintWords Go.Proofs.YtabkinlpbefjgaaW.PrintLast Go.Proofs.YtabkinlpbefjgaaW.PrintMore
attribute [local go_sem] max2_int min2_int max_two min_two max_three min_three max_four min_four   -- for this text's walks alone
set_option linter.unusedVariables false
set_option linter.unusedSimpArgs false
open Go.Proofs.Ytabkinlpbefjgaa.Pure
def kval : Kd Value where
  sz := 1
  E := []
  K _ x cs := cs = [x] ∧ x.oneCell' = true
  M _ _ _ x cs := cs = [x] ∧ x.oneCell' = true
  K_len h := by rw [h.1]; rfl
  K_one h := fun u hu => by rw [h.1] at hu; rw [List.mem_singleton.1 hu]; exact h.2
  K_below _ h := h
  K_of_M h := h
  M_mono _ h := h
  M_bound h := h
  M_move _ h := h
  M_lower _ h := h
theorem info26 : (Try.prog.info? 26).map (fun i => (i.zero, i.size, i.bytes)) = some (some (.slice none 0 0), 1, 24) := by kernel_rfl
def slv (GS : List S57) (bs : List Nat) : List Value := bs.zipIdx.map fun p => .slice (some ⟨p.1, 0, none⟩) (wsize (GS.getD p.2 z57)) (wsize (GS.getD p.2 z57))
theorem slv_at (GS : List S57) (bs : List Nat) (j b : Nat) (h : bs[j]? = some b) : (slv GS bs)[j]? = some (.slice (some ⟨b, 0, none⟩) (wsize (GS.getD j z57)) (wsize (GS.getD j z57))) := by
  unfold slv
  rw [List.getElem?_map, List.getElem?_zipIdx, h]
  simp
theorem slv_snoc (GS : List S57) (bs : List Nat) (b : Nat) : slv GS (bs ++ [b]) = slv GS bs ++ [.slice (some ⟨b, 0, none⟩) (wsize (GS.getD bs.length z57)) (wsize (GS.getD bs.length z57))] := by
  unfold slv
  rw [List.zipIdx_append, List.map_append]
  simp
theorem slv_len (GS : List S57) (bs : List Nat) : (slv GS bs).length = bs.length := by
  unfold slv
  rw [List.length_map, List.length_zipIdx]
theorem kval_at {W : World} {A : Option Addr} {n : Nat} {xs : List Value} (h : kval.C W A n xs) {j : Nat} {v : Value} (hj : xs[j]? = some v) : ∃ ad, A = some ad ∧ W.cell? (ad.add j) = some v := by
  have hl : j < xs.length := (List.getElem?_eq_some_iff.1 hj).1
  obtain ⟨ad, e, hc⟩ := h.2.2 (by have := h.1; omega)
  obtain ⟨cs, _, hk, hcell⟩ := hc j v hj
  have h2 := hcell 0 v (by rw [hk.1]; rfl)
  refine ⟨ad, e, ?_⟩
  have h3 : j * kval.sz + 0 = j := by show j * 1 + 0 = j; omega
  rw [h3] at h2
  exact h2
end Go.Proofs.Ytabkinlpbefjgaa.L

