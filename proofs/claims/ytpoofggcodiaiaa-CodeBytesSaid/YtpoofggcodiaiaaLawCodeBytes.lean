/- The row of brazierlaw19_CodeBytes: any input that Go can hand it is read, the walk is taken, the input reads as it did. Written by this session's own program rowgen.py; not one of print.sh's texts. -/
import Derived.Test.YtpoofggcodiaiaaRows
import Derived.Test.YtpoofggcodiaiaaX19
import Derived.Test.YtpoofggcodiaiaaPureCodeBytes
import Derived.Test.YtpoofggcodiaiaaOpen
import Derived.WalkKit
import Derived.ProofKit
import Derived.OpenShut
import Derived.ShutString
import Derived.ChangeOld
import Derived.Below
import Derived.SizedLaws
import Derived.Test.YtpoofggcodiaiaaWSized
namespace Go.Proofs.Ytpoofggcodiaiaa.codeBytes
open Go.ChangeShapes Go.WideShapes Go.ChangeAt Go.RowKit Go.Proofs.Ytpoofggcodiaiaa.Pure Go.Proofs.YtpoofggcodiaiaaW.PrintWords Go.Proofs.YtpoofggcodiaiaaW.PrintLast
open Go.ChangeMaps (open_string shut_string)
set_option linter.unusedVariables false
theorem own : ownKnob Try.prog.godebug = none := by kernel_rfl
theorem laidOut : laidOutB Try.prog = true := by kernel_rfl
theorem opens23 : Opens Try.prog 23 X.k23 (fun x => (Lit.int .i64 x.f0).wf = true ∧ (Lit.int .i64 x.f1).wf = true ∧ (Lit.int .i64 x.f2).wf = true ∧ (Lit.int .i64 x.f3).wf = true ∧ (Lit.int .i64 x.f4).wf = true ∧ (Lit.int .i32 x.f5).wf = true ∧ x.f6.size ≤ maxLen) := by
  have h := Opens.struct (β := X.S23) Try.underlying23 (by kernel_rfl) (OpensSeq.cons (Opens.int .i64 Try.underlying3 (by kernel_rfl)) (by kernel_rfl) (OpensSeq.cons (Opens.int .i64 Try.underlying3 (by kernel_rfl)) (by kernel_rfl) (OpensSeq.cons (Opens.int .i64 Try.underlying3 (by kernel_rfl)) (by kernel_rfl) (OpensSeq.cons (Opens.int .i64 Try.underlying3 (by kernel_rfl)) (by kernel_rfl) (OpensSeq.cons (Opens.int .i64 Try.underlying3 (by kernel_rfl)) (by kernel_rfl) (OpensSeq.cons (Opens.int .i32 Try.underlying21 (by kernel_rfl)) (by kernel_rfl) (OpensSeq.one (Opens.string Try.underlying9 (by kernel_rfl))))))))) (fun x : X.S23 => (x.f0, x.f1, x.f2, x.f3, x.f4, x.f5, x.f6)) (fun a => ⟨a.1, a.2.1, a.2.2.1, a.2.2.2.1, a.2.2.2.2.1, a.2.2.2.2.2.1, a.2.2.2.2.2.2⟩) (fun a => rfl)
  exact h
set_option maxRecDepth 100000 in
theorem lifted (os : Os) (started : os.Started) (H : Type) (enc : TypeId × Value → H) :
    ReturnsInHanded {} Try.checked os 6 .any (Rows.codeBytesSpec.pre6 enc Try.prog Try.f6 Rows.codeBytesRow.domain false) (Rows.codeBytesSpec.post enc Try.prog Try.f6 false true false false) := by
  refine returnsInHanded_of_change_sized (C := Try.checked) own started (by kernel_rfl) Try.func6
    (ChangeSpec.witness6 (enc := enc) (C := Try.checked) false ⟨#[], #[.slice none 0 0, .slice none 0 0], []⟩ 8 (by kernel_rfl) (by kernel_rfl) (by kernel_rfl) (by kernel_rfl)) ?_
  intro W base args ds gs before hval0 hW hcnd hsz0 _
  have hsz : (DataW.weightsEach Try.prog (Try.f6.params.toList ++ Rows.codeBytesSpec.plain.varTypes Try.prog) (ds ++ gs)).all (· ≤ reachBytes) = true := hsz0
  have hval : ∀ (j : Nat) t v, Try.f6.params[j]? = some t → args[j]? = some v → Value.okWide Try.prog W .any base t v := hval0
  have hW' := hW
  obtain ⟨p, q, hA0, hV, rfl, hfz, hnd⟩ := hW
  have hA : DataW.TrodAll enc Try.prog W 0 (fun _ => true) true Try.f6.params.toList args.toList ds p := hA0
  rw [Try.params6] at hA hval hsz
  obtain ⟨v0, vs0, d0, ds0, p0, q0, hargs, rfl, rfl, h0, r0⟩ := trodAll_cons hA
  obtain ⟨v1, vs1, d1, ds1, p1, q1, rfl, rfl, rfl, h1, r1⟩ := trodAll_cons r0
  obtain ⟨rfl, rfl, rfl⟩ := trodAll_nil r1
  obtain rfl : args = #[v0, v1] := by cases args; simp_all
  obtain ⟨rfl, rfl⟩ := trodVars_none hV
  obtain ⟨A0, len0, cap0, rfl⟩ := okWide_slice Try.underlying33 (hval 0 33 v0 rfl rfl)
  have kk0 := h0
  have lt0 : ∀ x ∈ p0, x.block < W.heap.size := by obtain ⟨m, hm⟩ := kk0; exact DataW.trod_lt m _ _ _ hm
  obtain ⟨l0, hl0, hc0, hm0, hC0, w0⟩ := (show ∃ l : List X.S23, len0 = l.length ∧ l.length ≤ cap0 ∧ cap0 ≤ maxLen ∧ Kd.C X.k23 W A0 l.length l ∧ ∀ y ∈ l, (fun x => (Lit.int .i64 x.f0).wf = true ∧ (Lit.int .i64 x.f1).wf = true ∧ (Lit.int .i64 x.f2).wf = true ∧ (Lit.int .i64 x.f3).wf = true ∧ (Lit.int .i64 x.f4).wf = true ∧ (Lit.int .i32 x.f5).wf = true ∧ x.f6.size ≤ maxLen) y from by
    obtain ⟨fuel, hf⟩ := h0
    obtain ⟨l, A, c, hcs, h1, h2, h3, h4⟩ := Opens.row Try.underlying33 opens23 hf
    simp only [Value.cells, List.cons.injEq, Value.slice.injEq, and_true] at hcs
    obtain ⟨rfl, rfl, rfl⟩ := hcs
    exact ⟨l, rfl, h1, h2, h3, h4⟩)
  subst hl0
  obtain ⟨A1, len1, cap1, rfl⟩ := okWide_slice Try.underlying34 (hval 1 34 v1 rfl rfl)
  have kk1 := h1
  have lt1 : ∀ x ∈ p1, x.block < W.heap.size := by obtain ⟨m, hm⟩ := kk1; exact DataW.trod_lt m _ _ _ hm
  obtain ⟨l1, hl1, hc1, hm1, hC1, w1⟩ := (show ∃ l : List Int, len1 = l.length ∧ l.length ≤ cap1 ∧ cap1 ≤ maxLen ∧ Kd.C (Kd.int .u8) W A1 l.length l ∧ ∀ y ∈ l, (fun n => (Lit.int .u8 n).wf = true) y from by
    obtain ⟨fuel, hf⟩ := h1
    obtain ⟨l, A, c, hcs, h1, h2, h3, h4⟩ := Opens.row Try.underlying34 (Opens.int .u8 Try.underlying5 (by kernel_rfl)) hf
    simp only [Value.cells, List.cons.injEq, Value.slice.injEq, and_true] at hcs
    obtain ⟨rfl, rfl, rfl⟩ := hcs
    exact ⟨l, rfl, h1, h2, h3, h4⟩)
  subst hl1
  clear hA0 hval0 hsz0 hsz
  refine (X.brazierlaw19_CodeBytes.calls 1000 A0 cap0 l0 A1 cap1 l1 true W hC0 hc0 hC1 hc1 (Pure.CodeBytes_is l0 l1 w0 w1)).mono fun e W' ⟨he, bel⟩ => ?_
  subst he
  exact ⟨_, rfl, _, _, _, [], _, [], hW', trodAll_mk1 (shut_bool Try.underlying4 _), (trodAll_cons_mk (Below.trod laidOut (by kernel_rfl) (of_decide_eq_true (by kernel_rfl)) kk0 bel lt0) (trodAll_cons_mk (Below.trod laidOut (by kernel_rfl) (of_decide_eq_true (by kernel_rfl)) kk1 bel lt1) trodAll_mk0)), rfl, bel.frame _, fun h => by cases h⟩
theorem over : Rows.codeBytesRow.holds Try.pinned (OpenSpec.ofChange Rows.codeBytesSpec) :=
  OpenClaim.holds_of_wide 6 Try.f6 rfl rfl rfl rfl rfl rfl rfl ⟨rfl, rfl, rfl, rfl, rfl⟩ rfl rfl rfl rfl rfl (by kernel_rfl) Try.func6 (by kernel_rfl)
    (of_decide_eq_true (by kernel_rfl)) (by unfold Func.isWrapper; first | (rw [if_pos (by decide +kernel)]; kernel_rfl) | (rw [if_neg (by decide +kernel)]; exact ⟨rfl, rfl⟩))
    (fun os started H enc _ => lifted os started H enc)
theorem proved : Rows.CodeBytesSaid := over
#print axioms proved
end Go.Proofs.Ytpoofggcodiaiaa.codeBytes
namespace Go.Proofs.Ytpoofggcodiaiaa
/-- The row, under a short name, for the claim. -/
theorem codeBytes_holds : Rows.CodeBytesSaid := codeBytes.proved
end Go.Proofs.Ytpoofggcodiaiaa
