/- Texts of this seat that a claim bears, put together by this session's own program shake.py: TrZr, TrRs. -/
import Derived.Test.YtabkinlpbefjgaaKd3
import Derived.Test.YtabkinlpbefjgaaKd27
namespace Go.Proofs.Ytabkinlpbefjgaa.L
open Go.RowKit Go.Proofs.Ytabkinlpbefjgaa.X Go.Proofs.YtabkinlpbefjgaaW.PrintWords Go.Proofs.YtabkinlpbefjgaaW.PrintLast Go.Proofs.YtabkinlpbefjgaaW.PrintMore
attribute [local go_sem] max2_int min2_int max_two min_two max_three min_three max_four min_four   -- for this text's walks alone
set_option linter.unusedVariables false
set_option linter.unusedSimpArgs false
open Go.Proofs.Ytabkinlpbefjgaa.Pure
def ok57 (x : S57) : Prop := x.f0.size ≤ maxLen ∧ (Lit.int .i64 x.f1).wf = true
theorem opens57 : Opens Try.prog 57 k57 ok57 := by
  have h := Opens.struct (β := S57) Try.underlying57 (by kernel_rfl) (OpensSeq.cons (Opens.string Try.underlying9 (by kernel_rfl)) (by kernel_rfl) (OpensSeq.one (Opens.int .i64 Try.underlying3 (by kernel_rfl)))) (fun x : S57 => (x.f0, x.f1)) (fun a => ⟨a.1, a.2⟩) (fun a => rfl)
  exact h
def ok44 (x : S44) : Prop := (Lit.int .i64 x.f0).wf = true ∧ (Lit.int .i64 x.f1).wf = true ∧ (Lit.int .i64 x.f2).wf = true ∧ (Lit.int .i64 x.f3).wf = true ∧ (Lit.int .i64 x.f4).wf = true ∧ (Lit.int .i32 x.f5).wf = true ∧ x.f6.size ≤ maxLen ∧ (x.f7.length ≤ maxLen ∧ ∀ y ∈ x.f7, (Lit.int .i64 y).wf = true)
theorem opens44 : Opens Try.prog 44 k44 ok44 := by
  have h := Opens.struct (β := S44) Try.underlying44 (by kernel_rfl) (OpensSeq.cons (Opens.int .i64 Try.underlying3 (by kernel_rfl)) (by kernel_rfl) (OpensSeq.cons (Opens.int .i64 Try.underlying3 (by kernel_rfl)) (by kernel_rfl) (OpensSeq.cons (Opens.int .i64 Try.underlying3 (by kernel_rfl)) (by kernel_rfl) (OpensSeq.cons (Opens.int .i64 Try.underlying3 (by kernel_rfl)) (by kernel_rfl) (OpensSeq.cons (Opens.int .i64 Try.underlying3 (by kernel_rfl)) (by kernel_rfl) (OpensSeq.cons (Opens.int .i32 Try.underlying21 (by kernel_rfl)) (by kernel_rfl) (OpensSeq.cons (Opens.string Try.underlying9 (by kernel_rfl)) (by kernel_rfl) (OpensSeq.one (Opens.slice Try.underlying42 (by kernel_rfl) (Opens.int .i64 Try.underlying3 (by kernel_rfl))))))))))) (fun x : S44 => (x.f0, x.f1, x.f2, x.f3, x.f4, x.f5, x.f6, x.f7)) (fun a => ⟨a.1, a.2.1, a.2.2.1, a.2.2.2.1, a.2.2.2.2.1, a.2.2.2.2.2.1, a.2.2.2.2.2.2.1, a.2.2.2.2.2.2.2⟩) (fun a => rfl)
  exact h
def ok41 (x : S41) : Prop := (x.f0.length ≤ maxLen ∧ ∀ y ∈ x.f0, ok44 y) ∧ (Lit.int .i64 x.f1).wf = true ∧ (Lit.int .i64 x.f2).wf = true ∧ (Lit.int .i64 x.f3).wf = true ∧ (Lit.int .i64 x.f4).wf = true
theorem opens41 : Opens Try.prog 41 k41 ok41 := by
  have h := Opens.struct (β := S41) Try.underlying41 (by kernel_rfl) (OpensSeq.cons (Opens.slice Try.underlying39 (by kernel_rfl) (opens44)) (by kernel_rfl) (OpensSeq.cons (Opens.int .i64 Try.underlying3 (by kernel_rfl)) (by kernel_rfl) (OpensSeq.cons (Opens.int .i64 Try.underlying3 (by kernel_rfl)) (by kernel_rfl) (OpensSeq.cons (Opens.int .i64 Try.underlying3 (by kernel_rfl)) (by kernel_rfl) (OpensSeq.one (Opens.int .i64 Try.underlying3 (by kernel_rfl))))))) (fun x : S41 => (x.f0, x.f1, x.f2, x.f3, x.f4)) (fun a => ⟨a.1, a.2.1, a.2.2.1, a.2.2.2.1, a.2.2.2.2⟩) (fun a => rfl)
  exact h
def ok47 (x : S47) : Prop := x.f0.size ≤ maxLen ∧ (Lit.int .i64 x.f1).wf = true ∧ (Lit.int .i64 x.f2).wf = true ∧ (x.f3.length ≤ maxLen ∧ ∀ y ∈ x.f3, ok41 y)
theorem opens47 : Opens Try.prog 47 k47 ok47 := by
  have h := Opens.struct (β := S47) Try.underlying47 (by kernel_rfl) (OpensSeq.cons (Opens.string Try.underlying9 (by kernel_rfl)) (by kernel_rfl) (OpensSeq.cons (Opens.int .i64 Try.underlying3 (by kernel_rfl)) (by kernel_rfl) (OpensSeq.cons (Opens.int .i64 Try.underlying3 (by kernel_rfl)) (by kernel_rfl) (OpensSeq.one (Opens.slice Try.underlying45 (by kernel_rfl) (opens41)))))) (fun x : S47 => (x.f0, x.f1, x.f2, x.f3)) (fun a => ⟨a.1, a.2.1, a.2.2.1, a.2.2.2⟩) (fun a => rfl)
  exact h
structure S25 where
  f0 : List S57
  f1 : List S47
def k25 : Kd S25 := Kd.iso (Kd.pair (Kd.slice 57 k57) (Kd.slice 47 k47)) (fun x : S25 => (x.f0, x.f1))
def ok25 (x : S25) : Prop := (x.f0.length ≤ maxLen ∧ ∀ y ∈ x.f0, ok57 y) ∧ (x.f1.length ≤ maxLen ∧ ∀ y ∈ x.f1, ok47 y)
theorem opens25 : Opens Try.prog 25 k25 ok25 := by
  have h := Opens.struct (β := S25) Try.underlying25 (by kernel_rfl) (OpensSeq.cons (Opens.slice Try.underlying22 (by kernel_rfl) (opens57)) (by kernel_rfl) (OpensSeq.one (Opens.slice Try.underlying23 (by kernel_rfl) (opens47)))) (fun x : S25 => (x.f0, x.f1)) (fun a => ⟨a.1, a.2⟩) (fun a => rfl)
  exact h
theorem k25_open {w : World} {x : S25} {cs : List Value} (h : k25.K w x cs) : ∃ A0 c0 A1 c1, cs = [.slice A0 x.f0.length c0, .slice A1 x.f1.length c1] ∧ x.f0.length ≤ c0 ∧ Kd.C k57 w A0 x.f0.length x.f0 ∧ x.f1.length ≤ c1 ∧ Kd.C k47 w A1 x.f1.length x.f1 := by
  obtain ⟨_, _, rfl, ⟨A0, c0, rfl, l0, g0⟩, ⟨A1, c1, rfl, l1, g1⟩⟩ := h
  exact ⟨A0, c0, A1, c1, rfl, l0, g0, l1, g1⟩
theorem ok25_num {x : S25} (h : ok25 x) : ∀ f ∈ x.f1, ∀ b ∈ f.f3, ∀ y ∈ b.f0, W32 y.f5 := by
  intro f hf b hb y hy
  have h1 := ((h.2.2 f hf).2.2.2.2 b hb).1.2 y hy
  have h2 := (Lit.wf_int_iff .i32 y.f5).1 h1.2.2.2.2.2.1
  exact h2
theorem ok_i32 {l : List Int} (h : ∀ y ∈ l, (Lit.int .i32 y).wf = true) : ∀ v ∈ l, W32 v := fun v hv => (Lit.wf_int_iff .i32 v).1 (h v hv)
end Go.Proofs.Ytabkinlpbefjgaa.L

namespace Go.Proofs.Ytabkinlpbefjgaa.L
open Go.RowKit Go.Proofs.Ytabkinlpbefjgaa.X Go.Proofs.YtabkinlpbefjgaaW.PrintWords Go.Proofs.YtabkinlpbefjgaaW.PrintLast Go.Proofs.YtabkinlpbefjgaaW.PrintMore
attribute [local go_sem] max2_int min2_int max_two min_two max_three min_three max_four min_four   -- for this text's walks alone
set_option linter.unusedVariables false
set_option linter.unusedSimpArgs false
open Go.Proofs.Ytabkinlpbefjgaa.Pure
theorem runs_row (x : S25) (AG : Option Addr) (cG : Nat) (AF : Option Addr) (cF : Nat) (AI : Option Addr) (cI : Nat) (l : List Int) (fuel : Int) (w : World) (hG : Kd.C k57 w AG x.f0.length x.f0) (hcG : x.f0.length ≤ cG) (hF : Kd.C k47 w AF x.f1.length x.f1) (hcF : x.f1.length ≤ cF) (hI : (Kd.int .i32).C w AI l.length l) (hcI : l.length ≤ cI) (h25 : ok25 x) (h32 : ∀ y ∈ l, (Lit.int .i32 y).wf = true) (_ : (Lit.int .i64 fuel).wf = true) :
    Calls Try.prog 3 #[.agg #[.slice AG x.f0.length cG, .slice AF x.f1.length cF], .slice AI l.length cI, .int .i64 fuel] w fun e w' => e = .returned (.bool true) ∧ Below w.heap.size w w' :=
  runs_calls x.f0 x.f1 AG cG AF cF AI cI l fuel w hG hcG hF hcF hI hcI (ok25_num h25) (ok_i32 h32)
end Go.Proofs.Ytabkinlpbefjgaa.L

