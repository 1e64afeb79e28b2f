/- The row of brazierlaw07_LexerPrints: any input that Go can hand it is read, the walk is taken, the input reads as it did. Written by this session's own program rowgen.py; not one of print.sh's texts. -/
import Derived.Test.YtbmabnmidacpdaaRows
import Derived.Test.YtbmabnmidacpdaaLyA
import Derived.Test.YtbmabnmidacpdaaOpen
import Derived.WalkKit
import Derived.ProofKit
import Derived.OpenShut
import Derived.ShutString
import Derived.ChangeOld
import Derived.Below
import Derived.SizedLaws
import Derived.HandedShaped
import Derived.Shelf.LaysM
import Derived.Test.YtbmabnmidacpdaaWSized
namespace Go.Proofs.Ytbmabnmidacpdaa.lexerPrints
open Go.ChangeShapes Go.WideShapes Go.ChangeAt Go.RowKit Go.Proofs.Ytbmabnmidacpdaa.Pure Go.Proofs.YtbmabnmidacpdaaW.PrintWords Go.Proofs.YtbmabnmidacpdaaW.PrintLast
open Go.ChangeMaps (open_string shut_string)
set_option linter.unusedVariables false
theorem own : ownKnob Try.prog.godebug = none := by kernel_rfl
theorem laidOut : laidOutB Try.prog = true := by kernel_rfl
theorem opens26 : Opens Try.prog 26 X.k26 (fun x => (Lit.int .i64 x.f0).wf = true ∧ (Lit.int .i64 x.f1).wf = true ∧ (Lit.int .i64 x.f2).wf = true) := by
  have h := Opens.struct (β := X.S26) Try.underlying26 (by kernel_rfl) (OpensSeq.cons (Opens.int .i64 Try.underlying3 (by kernel_rfl)) (by kernel_rfl) (OpensSeq.cons (Opens.int .i64 Try.underlying3 (by kernel_rfl)) (by kernel_rfl) (OpensSeq.one (Opens.int .i64 Try.underlying3 (by kernel_rfl))))) (fun x : X.S26 => (x.f0, x.f1, x.f2)) (fun a => ⟨a.1, a.2.1, a.2.2⟩) (fun a => rfl)
  exact h
theorem opens33 : Opens Try.prog 33 X.k33 (fun x => (Lit.int .i64 x.f0).wf = true ∧ x.f1.size ≤ maxLen ∧ (Lit.int .i32 x.f2).wf = true ∧ (fun x => (Lit.int .i64 x.f0).wf = true ∧ (Lit.int .i64 x.f1).wf = true ∧ (Lit.int .i64 x.f2).wf = true) x.f3) := by
  have h := Opens.struct (β := X.S33) Try.underlying33 (by kernel_rfl) (OpensSeq.cons (Opens.int .i64 Try.underlying3 (by kernel_rfl)) (by kernel_rfl) (OpensSeq.cons (Opens.string Try.underlying9 (by kernel_rfl)) (by kernel_rfl) (OpensSeq.cons (Opens.int .i32 Try.underlying21 (by kernel_rfl)) (by kernel_rfl) (OpensSeq.one (opens26))))) (fun x : X.S33 => (x.f0, x.f1, x.f2, x.f3)) (fun a => ⟨a.1, a.2.1, a.2.2.1, a.2.2.2⟩) (fun a => rfl)
  exact h
set_option maxRecDepth 100000 in
theorem lifted (os : Os) (started : os.Started) (H : Type) (enc : TypeId × Value → H) :
    ReturnsInHanded {} Try.checked os 9 .any (Rows.lexerPrintsSpec.pre6 enc Try.prog Try.f9 Rows.lexerPrintsRow.domain false) (Rows.lexerPrintsSpec.post enc Try.prog Try.f9 false true false false) := by
  refine returnsInHanded_of_change_shaped (C := Try.checked) own started (by kernel_rfl) Try.func9
    (ChangeSpec.witness6 (enc := enc) (C := Try.checked) false ⟨#[], #[.slice none 0 0], []⟩ 8 (by kernel_rfl) (by kernel_rfl) (by kernel_rfl) (by kernel_rfl)) ?_
  intro W base args ds gs before hval0 hW hcnd hsz0 hshape _
  obtain ⟨mx, hmx⟩ := Go.Proofs.cell_of_shapedOpen_int (zero := #[.int .i64 0]) (t := 3) hshape (of_decide_eq_true (by kernel_rfl)) (by kernel_rfl) rfl (by kernel_rfl) (by kernel_rfl) Try.underlying3
  have hsz : (DataW.weightsEach Try.prog (Try.f9.params.toList ++ Rows.lexerPrintsSpec.plain.varTypes Try.prog) (ds ++ gs)).all (· ≤ reachBytes) = true := hsz0
  have hval : ∀ (j : Nat) t v, Try.f9.params[j]? = some t → args[j]? = some v → Value.okWide Try.prog W .any base t v := hval0
  have hW' := hW
  obtain ⟨p, q, hA0, hV, rfl, hfz, hnd⟩ := hW
  have hA : DataW.TrodAll enc Try.prog W 0 (fun _ => true) true Try.f9.params.toList args.toList ds p := hA0
  rw [Try.params9] at hA hval hsz
  obtain ⟨v0, vs0, d0, ds0, p0, q0, hargs, rfl, rfl, h0, r0⟩ := trodAll_cons hA
  obtain ⟨rfl, rfl, rfl⟩ := trodAll_nil r0
  obtain rfl : args = #[v0] := by cases args; simp_all
  obtain ⟨rfl, rfl⟩ := trodVars_none hV
  obtain ⟨A0, len0, cap0, rfl⟩ := okWide_slice Try.underlying23 (hval 0 23 v0 rfl rfl)
  have kk0 := h0
  have lt0 : ∀ x ∈ p0, x.block < W.heap.size := by obtain ⟨m, hm⟩ := kk0; exact DataW.trod_lt m _ _ _ hm
  obtain ⟨l0, hl0, hc0, hm0, hC0, w0⟩ := (show ∃ l : List X.S33, len0 = l.length ∧ l.length ≤ cap0 ∧ cap0 ≤ maxLen ∧ Kd.C X.k33 W A0 l.length l ∧ ∀ y ∈ l, (fun x => (Lit.int .i64 x.f0).wf = true ∧ x.f1.size ≤ maxLen ∧ (Lit.int .i32 x.f2).wf = true ∧ (fun x => (Lit.int .i64 x.f0).wf = true ∧ (Lit.int .i64 x.f1).wf = true ∧ (Lit.int .i64 x.f2).wf = true) x.f3) y from by
    obtain ⟨fuel, hf⟩ := h0
    obtain ⟨l, A, c, hcs, h1, h2, h3, h4⟩ := Opens.row Try.underlying23 opens33 hf
    simp only [Value.cells, List.cons.injEq, Value.slice.injEq, and_true] at hcs
    obtain ⟨rfl, rfl, rfl⟩ := hcs
    exact ⟨l, rfl, h1, h2, h3, h4⟩)
  subst hl0
  refine (L.prints_calls A0 cap0 l0 W mx hmx hC0 hc0 w0).mono fun e W' ⟨he, bel⟩ => ?_
  subst he
  exact ⟨_, rfl, _, _, _, [], _, [], hW', trodAll_mk1 (shut_bool Try.underlying4 _), (trodAll_cons_mk (Below.trod laidOut (by kernel_rfl) (of_decide_eq_true (by kernel_rfl)) kk0 bel lt0) trodAll_mk0), rfl, bel.frame _, fun h => by cases h⟩
theorem over : Rows.lexerPrintsRow.holds Try.pinned (OpenSpec.ofChange Rows.lexerPrintsSpec) :=
  OpenClaim.holds_of_wide 9 Try.f9 rfl rfl rfl rfl rfl rfl rfl ⟨rfl, rfl, rfl, rfl, rfl⟩ rfl rfl rfl rfl rfl (by kernel_rfl) Try.func9 (by kernel_rfl)
    (of_decide_eq_true (by kernel_rfl)) (by unfold Func.isWrapper; first | (rw [if_pos (by decide +kernel)]; kernel_rfl) | (rw [if_neg (by decide +kernel)]; exact ⟨rfl, rfl⟩))
    (fun os started H enc _ => lifted os started H enc)
theorem proved : Rows.LexerPrintsSaid := over
#print axioms proved
end Go.Proofs.Ytbmabnmidacpdaa.lexerPrints
namespace Go.Proofs.Ytbmabnmidacpdaa
/-- The row, under a short name, for the claim. -/
theorem lexerPrints_holds : Rows.LexerPrintsSaid := lexerPrints.proved
end Go.Proofs.Ytbmabnmidacpdaa
