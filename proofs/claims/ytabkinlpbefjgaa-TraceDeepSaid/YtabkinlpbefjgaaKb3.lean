/- Texts of this seat that a claim bears, put together by this session's own program shake.py: Open. -/
import Derived.Test.YtabkinlpbefjgaaKb1
import Derived.Deep.Slices
import Derived.ProofKit
namespace Go.Proofs.Ytabkinlpbefjgaa.Pure
open Go.RowKit Go.Deep Go.WideShapes Go.ChangeShapes Go.Proofs.YtabkinlpbefjgaaW.PrintWords Go.Proofs.YtabkinlpbefjgaaW.PrintLast
def Opens {α : Type} (P : Program) (t : TypeId) (d : Kd α) (ok : α → Prop) : Prop :=
  d.sz = P.cellsOf t ∧ ∀ {H : Type} {enc : TypeId × Value → H} {w : World} {base : Nat} {spare : Nat → Bool} {held : Bool} {fuel : Nat} {cs : List Value} {x : DataW H × List MemPlace},
    DataW.trod enc P w base spare held fuel t cs = some x → ∃ v, d.K w v cs ∧ ok v
theorem Opens.int {P : Program} {t : TypeId} (k : IntKind) (ht : P.underlying t = some (.int k)) (hs : P.cellsOf t = 1) : Opens P t (Kd.int k) (fun n => (Lit.int k n).wf = true) :=
  ⟨hs.symm, fun h => by obtain ⟨n, hc, _, hw⟩ := DataW.trod_int ht h; exact ⟨n, hc, hw⟩⟩
theorem Opens.bool {P : Program} {t : TypeId} (ht : P.underlying t = some .bool) (hs : P.cellsOf t = 1) : Opens P t Kd.bool (fun _ => True) :=
  ⟨hs.symm, fun h => by obtain ⟨n, hc, _⟩ := DataW.trod_bool ht h; exact ⟨n, hc, trivial⟩⟩
end Go.Proofs.Ytabkinlpbefjgaa.Pure

