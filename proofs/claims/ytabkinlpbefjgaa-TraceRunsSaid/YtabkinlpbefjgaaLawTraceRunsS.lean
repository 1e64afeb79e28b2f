/- The row of brazierlaw12_TraceRuns: any input that Go can hand it is read, the walk is taken, the input reads as it did. Written by this session's own program rowgen.py; not one of print.sh's texts. -/
import Derived.Test.YtabkinlpbefjgaaRows
import Derived.Test.YtabkinlpbefjgaaKd28
import Derived.OpenShut
import Derived.ShutString
import Derived.Test.YtabkinlpbefjgaaKd4
namespace Go.Proofs.Ytabkinlpbefjgaa.traceRuns
open Go.ChangeShapes Go.WideShapes Go.ChangeAt Go.RowKit Go.Proofs.Ytabkinlpbefjgaa.Pure Go.Proofs.YtabkinlpbefjgaaW.PrintWords Go.Proofs.YtabkinlpbefjgaaW.PrintLast
open Go.ChangeMaps (open_string shut_string)
set_option linter.unusedVariables false
theorem own : ownKnob Try.prog.godebug = none := by kernel_rfl
theorem laidOut : laidOutB Try.prog = true := by kernel_rfl
set_option maxRecDepth 100000 in
theorem lifted (os : Os) (started : os.Started) (H : Type) (enc : TypeId × Value → H) :
    ReturnsInHanded {} Try.checked os 3 .any (Rows.traceRunsSpec.pre6 enc Try.prog Try.f3 Rows.traceRunsRow.domain false) (Rows.traceRunsSpec.post enc Try.prog Try.f3 false true false false) := by
  refine returnsInHanded_of_change_sized (C := Try.checked) own started (by kernel_rfl) Try.func3
    (ChangeSpec.witness6 (enc := enc) (C := Try.checked) false ⟨#[], #[.agg #[.slice none 0 0, .slice none 0 0], .slice none 0 0, .int .i64 0], []⟩ 8 (by kernel_rfl) (by kernel_rfl) (by kernel_rfl) (by kernel_rfl)) ?_
  intro W base args ds gs before hval0 hW hcnd hsz0 _
  have hsz : (DataW.weightsEach Try.prog (Try.f3.params.toList ++ Rows.traceRunsSpec.plain.varTypes Try.prog) (ds ++ gs)).all (· ≤ reachBytes) = true := hsz0
  have hval : ∀ (j : Nat) t v, Try.f3.params[j]? = some t → args[j]? = some v → Value.okWide Try.prog W .any base t v := hval0
  have hW' := hW
  obtain ⟨p, q, hA0, hV, rfl, hfz, hnd⟩ := hW
  have hA : DataW.TrodAll enc Try.prog W 0 (fun _ => true) true Try.f3.params.toList args.toList ds p := hA0
  rw [Try.params3] at hA hval hsz
  obtain ⟨v0, vs0, d0, ds0, p0, q0, hargs, rfl, rfl, h0, r0⟩ := trodAll_cons hA
  obtain ⟨v1, vs1, d1, ds1, p1, q1, rfl, rfl, rfl, h1, r1⟩ := trodAll_cons r0
  obtain ⟨v2, vs2, d2, ds2, p2, q2, rfl, rfl, rfl, h2, r2⟩ := trodAll_cons r1
  obtain ⟨rfl, rfl, rfl⟩ := trodAll_nil r2
  obtain rfl : args = #[v0, v1, v2] := by cases args; simp_all
  obtain ⟨rfl, rfl⟩ := trodVars_none hV
  obtain ⟨cs0, rfl, hcs0⟩ := okWide_struct Try.underlying25 (hval 0 25 v0 rfl rfl)
  have kk0 := h0
  have lt0 : ∀ x ∈ p0, x.block < W.heap.size := by obtain ⟨m, hm⟩ := kk0; exact DataW.trod_lt m _ _ _ hm
  obtain ⟨x0, hx0, w0⟩ := (show ∃ x : L.S25, L.k25.K W x (Value.cells (.agg cs0)).toList ∧ L.ok25 x from by obtain ⟨fuel, hf⟩ := h0; exact L.opens25.2 hf)
  obtain ⟨AG0, cG0, AF0, cF0, e0, hcG0, hG0, hcF0, hF0⟩ := L.k25_open hx0
  obtain rfl : cs0 = #[.slice AG0 x0.f0.length cG0, .slice AF0 x0.f1.length cF0] := by
    cases cs0
    simpa [Value.cells] using e0
  obtain ⟨A1, len1, cap1, rfl⟩ := okWide_slice Try.underlying26 (hval 1 26 v1 rfl rfl)
  have kk1 := h1
  have lt1 : ∀ x ∈ p1, x.block < W.heap.size := by obtain ⟨m, hm⟩ := kk1; exact DataW.trod_lt m _ _ _ hm
  obtain ⟨l1, hl1, hc1, hm1, hC1, w1⟩ := (show ∃ l : List Int, len1 = l.length ∧ l.length ≤ cap1 ∧ cap1 ≤ maxLen ∧ Kd.C (Kd.int .i32) W A1 l.length l ∧ ∀ y ∈ l, (fun n => (Lit.int .i32 n).wf = true) y from by
    obtain ⟨fuel, hf⟩ := h1
    obtain ⟨l, A, c, hcs, h1, h2, h3, h4⟩ := Opens.row Try.underlying26 (Opens.int .i32 Try.underlying21 (by kernel_rfl)) hf
    simp only [Value.cells, List.cons.injEq, Value.slice.injEq, and_true] at hcs
    obtain ⟨rfl, rfl, rfl⟩ := hcs
    exact ⟨l, rfl, h1, h2, h3, h4⟩)
  subst hl1
  obtain ⟨a2, rfl, rfl, rfl, w2⟩ := open_int Try.underlying3 (hval 2 3 v2 rfl rfl) h2
  clear hA0 hval0 hsz0 hsz
  refine (L.runs_row x0 AG0 cG0 AF0 cF0 A1 cap1 l1 a2 W hG0 hcG0 hF0 hcF0 hC1 hc1 w0 w1 w2).mono fun e W' ⟨he, bel⟩ => ?_
  subst he
  exact ⟨_, rfl, _, _, _, [], _, [], hW', trodAll_mk1 (shut_bool Try.underlying4 _), (trodAll_cons_mk (Below.trod laidOut (by kernel_rfl) (of_decide_eq_true (by kernel_rfl)) kk0 bel lt0) (trodAll_cons_mk (Below.trod laidOut (by kernel_rfl) (of_decide_eq_true (by kernel_rfl)) kk1 bel lt1) (trodAll_cons_mk (shut_int Try.underlying3 w2) trodAll_mk0))), rfl, bel.frame _, fun h => by cases h⟩
theorem over : Rows.traceRunsRow.holds Try.pinned (OpenSpec.ofChange Rows.traceRunsSpec) :=
  OpenClaim.holds_of_wide 3 Try.f3 rfl rfl rfl rfl rfl rfl rfl ⟨rfl, rfl, rfl, rfl, rfl⟩ rfl rfl rfl rfl rfl (by kernel_rfl) Try.func3 (by kernel_rfl)
    (of_decide_eq_true (by kernel_rfl)) (by unfold Func.isWrapper; first | (rw [if_pos (by decide +kernel)]; kernel_rfl) | (rw [if_neg (by decide +kernel)]; exact ⟨rfl, rfl⟩))
    (fun os started H enc _ => lifted os started H enc)
theorem proved : Rows.TraceRunsSaid := over
#print axioms proved
end Go.Proofs.Ytabkinlpbefjgaa.traceRuns
namespace Go.Proofs.Ytabkinlpbefjgaa
/-- The row, under a short name, for the claim. -/
theorem traceRuns_holds : Rows.TraceRunsSaid := traceRuns.proved
end Go.Proofs.Ytabkinlpbefjgaa
