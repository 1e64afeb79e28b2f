/-
  No cell of these rows narrows 'for every input' (looked for: loops, veiled, ifaces, maps, wideKeys, modest, calm, conditions, laid).
  DERIVED. THE GIVEN ROWS OF THIS SEAT. 6 by the template 'for every input the law returns true; each argument reads behind the call as it read before'; 0 by the template 'total and deterministic' (their statements: YtijjopioamdahaaTotals.lean).
  GIVEN WITH THE SEED: the statements are not yours to turn. If you find one false, say at which input.
  Laid BY PROGRAM, IN A SANDBOX (cutbox-rows.mjs): the forced cells as the released guide's own fill.sh prints them over the translation 2f4007885b509560… (all of the seat's roots in one cut). By AI agents, Wed Nov 11 2026. No macro, syntax, notation, axiom, sorry.
-/
import Derived.Test.YtijjopioamdahaaChecked
import GoSem.Claim
import GoSem.ClaimJoined
import GoSem.ClaimMapViews
import Derived.JoinedTies
import Derived.KernelRfl
namespace Go.Proofs.Ytijjopioamdahaa
/- THE CELL 'sum', in the pinned program and in every row, IS THE sha256 OF THE DUMP (.gsa) THAT YtijjopioamdahaaProg.lean LOADS. Nothing in Lean hashes anything: it is a label: what it is worth is what the hold of that sum in a sandbox is worth. -/
noncomputable def Try.pinned : Pinned := { name := "ytijjopioamdahaa", sum := "2f4007885b509560843a4333474a666a2cd8a31d066de8412c47728297e38c65", checked := Try.checked }
namespace Rows
def none {H : Type} : Left H := { results := [], args := [] }

/-- 'brazierlaw02.DigestCrcs': WHATEVER THE INPUT: true; the input reads as it did. -/
def digestCrcsSpec : ChangeSpec := { name := "digestCrcs", fn := fun _ => fun
  | [d] => { results := [.lit (.bool true)], args := [d] }
  | _ => none }
def digestCrcsRow : OpenClaim := { program := "ytijjopioamdahaa", sum := "2f4007885b509560843a4333474a666a2cd8a31d066de8412c47728297e38c65", func := "brazier/brazierlaw02.DigestCrcs", spec := "digestCrcs", apart := false }
def DigestCrcsSaid : Prop := digestCrcsRow.holds Try.pinned (OpenSpec.ofChange digestCrcsSpec)

/-- ITS FALSE NEIGHBOUR: 'it returns false'. Refute it at one input. -/
def digestCrcsWrong : ChangeSpec := { name := "digestCrcs", fn := fun _ => fun
  | [d] => { results := [.lit (.bool false)], args := [d] }
  | _ => none }
def DigestCrcsWrongFalsely : Prop := digestCrcsRow.holds Try.pinned (OpenSpec.ofChange digestCrcsWrong)

/-- 'brazierlaw02.DigestShas': WHATEVER THE INPUT: true; the input reads as it did. -/
def digestShasSpec : ChangeSpec := { name := "digestShas", fn := fun _ => fun
  | [d] => { results := [.lit (.bool true)], args := [d] }
  | _ => none }
def digestShasRow : OpenClaim := { program := "ytijjopioamdahaa", sum := "2f4007885b509560843a4333474a666a2cd8a31d066de8412c47728297e38c65", func := "brazier/brazierlaw02.DigestShas", spec := "digestShas", apart := false }
def DigestShasSaid : Prop := digestShasRow.holds Try.pinned (OpenSpec.ofChange digestShasSpec)

/-- ITS FALSE NEIGHBOUR: 'it returns false'. Refute it at one input. -/
def digestShasWrong : ChangeSpec := { name := "digestShas", fn := fun _ => fun
  | [d] => { results := [.lit (.bool false)], args := [d] }
  | _ => none }
def DigestShasWrongFalsely : Prop := digestShasRow.holds Try.pinned (OpenSpec.ofChange digestShasWrong)

/-- 'brazierlaw02.DigestMore': WHATEVER THE INPUT: true; the input reads as it did. -/
def digestMoreSpec : ChangeSpec := { name := "digestMore", fn := fun _ => fun
  | [d1, d2, d3] => { results := [.lit (.bool true)], args := [d1, d2, d3] }
  | _ => none }
def digestMoreRow : OpenClaim := { program := "ytijjopioamdahaa", sum := "2f4007885b509560843a4333474a666a2cd8a31d066de8412c47728297e38c65", func := "brazier/brazierlaw02.DigestMore", spec := "digestMore", apart := false }
def DigestMoreSaid : Prop := digestMoreRow.holds Try.pinned (OpenSpec.ofChange digestMoreSpec)

/-- ITS FALSE NEIGHBOUR: 'it returns false'. Refute it at one input. -/
def digestMoreWrong : ChangeSpec := { name := "digestMore", fn := fun _ => fun
  | [d1, d2, d3] => { results := [.lit (.bool false)], args := [d1, d2, d3] }
  | _ => none }
def DigestMoreWrongFalsely : Prop := digestMoreRow.holds Try.pinned (OpenSpec.ofChange digestMoreWrong)

/-- 'brazierlaw02.DigestEnds': WHATEVER THE INPUT: true; the input reads as it did. -/
def digestEndsSpec : ChangeSpec := { name := "digestEnds", fn := fun _ => fun
  | [d1, d2] => { results := [.lit (.bool true)], args := [d1, d2] }
  | _ => none }
def digestEndsRow : OpenClaim := { program := "ytijjopioamdahaa", sum := "2f4007885b509560843a4333474a666a2cd8a31d066de8412c47728297e38c65", func := "brazier/brazierlaw02.DigestEnds", spec := "digestEnds", apart := false }
def DigestEndsSaid : Prop := digestEndsRow.holds Try.pinned (OpenSpec.ofChange digestEndsSpec)

/-- ITS FALSE NEIGHBOUR: 'it returns false'. Refute it at one input. -/
def digestEndsWrong : ChangeSpec := { name := "digestEnds", fn := fun _ => fun
  | [d1, d2] => { results := [.lit (.bool false)], args := [d1, d2] }
  | _ => none }
def DigestEndsWrongFalsely : Prop := digestEndsRow.holds Try.pinned (OpenSpec.ofChange digestEndsWrong)

/-- 'brazierlaw02.DigestTurned': WHATEVER THE INPUT: true; the input reads as it did. -/
def digestTurnedSpec : ChangeSpec := { name := "digestTurned", fn := fun _ => fun
  | [d1, d2, d3] => { results := [.lit (.bool true)], args := [d1, d2, d3] }
  | _ => none }
def digestTurnedRow : OpenClaim := { program := "ytijjopioamdahaa", sum := "2f4007885b509560843a4333474a666a2cd8a31d066de8412c47728297e38c65", func := "brazier/brazierlaw02.DigestTurned", spec := "digestTurned", apart := false }
def DigestTurnedSaid : Prop := digestTurnedRow.holds Try.pinned (OpenSpec.ofChange digestTurnedSpec)

/-- ITS FALSE NEIGHBOUR: 'it returns false'. Refute it at one input. -/
def digestTurnedWrong : ChangeSpec := { name := "digestTurned", fn := fun _ => fun
  | [d1, d2, d3] => { results := [.lit (.bool false)], args := [d1, d2, d3] }
  | _ => none }
def DigestTurnedWrongFalsely : Prop := digestTurnedRow.holds Try.pinned (OpenSpec.ofChange digestTurnedWrong)

/-- 'brazierlaw02.DigestPieces': WHATEVER THE INPUT: true; the input reads as it did. -/
def digestPiecesSpec : ChangeSpec := { name := "digestPieces", fn := fun _ => fun
  | [d] => { results := [.lit (.bool true)], args := [d] }
  | _ => none }
def digestPiecesRow : OpenClaim := { program := "ytijjopioamdahaa", sum := "2f4007885b509560843a4333474a666a2cd8a31d066de8412c47728297e38c65", func := "brazier/brazierlaw02.DigestPieces", spec := "digestPieces", apart := false }
def DigestPiecesSaid : Prop := digestPiecesRow.holds Try.pinned (OpenSpec.ofChange digestPiecesSpec)

/-- ITS FALSE NEIGHBOUR: 'it returns false'. Refute it at one input. -/
def digestPiecesWrong : ChangeSpec := { name := "digestPieces", fn := fun _ => fun
  | [d] => { results := [.lit (.bool false)], args := [d] }
  | _ => none }
def DigestPiecesWrongFalsely : Prop := digestPiecesRow.holds Try.pinned (OpenSpec.ofChange digestPiecesWrong)

/- THE SECOND FORM. 'bulk': how many values and letters a reading holds, each counted each time it is reached (what is shared counts as often as it is met; a slice's spare places count too). A statement '..UptoSaid' is the law's where the arguments, and the package variables that the reading takes, are together of bulk at most 1048576: NARROWER than '..Said'. Prove '..Said' where nothing that the law and all that it calls make is longer than what came in: it says more and counts as full. Else prove '..UptoSaid'. A law counts once. -/
mutual
def uptoBulk {H : Type} : DataW H → Nat
  | .lit (.string bytes) => bytes.length + 1
  | .lit _ => 1
  | .nil => 1
  | .ptr d => uptoBulk d + 1
  | .slice elems spare => uptoBulkAll elems + uptoBulkAll spare + 1
  | .agg parts => uptoBulkAll parts + 1
  | .iface _ d => uptoBulk d + 1
  | .map entries => uptoBulkEntries entries + 1
  | .held _ => 1
def uptoBulkAll {H : Type} : List (DataW H) → Nat
  | [] => 0
  | d :: r => uptoBulk d + uptoBulkAll r
def uptoBulkEntries {H : Type} : List (Lit × DataW H) → Nat
  | [] => 0
  | x :: r => uptoBulkEntry x + uptoBulkEntries r
def uptoBulkEntry {H : Type} : Lit × DataW H → Nat
  | (.string bytes, d) => bytes.length + uptoBulk d + 1
  | (_, d) => uptoBulk d + 1
 end
def uptoSmall : (H : Type) → List (DataW H) → Bool := fun _ ds => decide (uptoBulkAll ds ≤ 1048576)
def OpenSpec.upto (s : _root_.Go.ChangeSpec) : _root_.Go.OpenSpec := { _root_.Go.OpenSpec.ofChange s with cond := some uptoSmall }

/-- 'brazierlaw02.DigestCrcs', WHERE WHAT IT READS IS OF BULK AT MOST 1048576: true; the input reads as it did. -/
def digestCrcsUptoRow : OpenClaim := { program := "ytijjopioamdahaa", sum := "2f4007885b509560843a4333474a666a2cd8a31d066de8412c47728297e38c65", func := "brazier/brazierlaw02.DigestCrcs", spec := "digestCrcs", apart := false, narrowed := true }
def DigestCrcsUptoSaid : Prop := digestCrcsUptoRow.holds Try.pinned (OpenSpec.upto digestCrcsSpec)

/-- 'brazierlaw02.DigestShas', WHERE WHAT IT READS IS OF BULK AT MOST 1048576: true; the input reads as it did. -/
def digestShasUptoRow : OpenClaim := { program := "ytijjopioamdahaa", sum := "2f4007885b509560843a4333474a666a2cd8a31d066de8412c47728297e38c65", func := "brazier/brazierlaw02.DigestShas", spec := "digestShas", apart := false, narrowed := true }
def DigestShasUptoSaid : Prop := digestShasUptoRow.holds Try.pinned (OpenSpec.upto digestShasSpec)

/-- 'brazierlaw02.DigestMore', WHERE WHAT IT READS IS OF BULK AT MOST 1048576: true; the input reads as it did. -/
def digestMoreUptoRow : OpenClaim := { program := "ytijjopioamdahaa", sum := "2f4007885b509560843a4333474a666a2cd8a31d066de8412c47728297e38c65", func := "brazier/brazierlaw02.DigestMore", spec := "digestMore", apart := false, narrowed := true }
def DigestMoreUptoSaid : Prop := digestMoreUptoRow.holds Try.pinned (OpenSpec.upto digestMoreSpec)

/-- 'brazierlaw02.DigestEnds', WHERE WHAT IT READS IS OF BULK AT MOST 1048576: true; the input reads as it did. -/
def digestEndsUptoRow : OpenClaim := { program := "ytijjopioamdahaa", sum := "2f4007885b509560843a4333474a666a2cd8a31d066de8412c47728297e38c65", func := "brazier/brazierlaw02.DigestEnds", spec := "digestEnds", apart := false, narrowed := true }
def DigestEndsUptoSaid : Prop := digestEndsUptoRow.holds Try.pinned (OpenSpec.upto digestEndsSpec)

/-- 'brazierlaw02.DigestTurned', WHERE WHAT IT READS IS OF BULK AT MOST 1048576: true; the input reads as it did. -/
def digestTurnedUptoRow : OpenClaim := { program := "ytijjopioamdahaa", sum := "2f4007885b509560843a4333474a666a2cd8a31d066de8412c47728297e38c65", func := "brazier/brazierlaw02.DigestTurned", spec := "digestTurned", apart := false, narrowed := true }
def DigestTurnedUptoSaid : Prop := digestTurnedUptoRow.holds Try.pinned (OpenSpec.upto digestTurnedSpec)

/-- 'brazierlaw02.DigestPieces', WHERE WHAT IT READS IS OF BULK AT MOST 1048576: true; the input reads as it did. -/
def digestPiecesUptoRow : OpenClaim := { program := "ytijjopioamdahaa", sum := "2f4007885b509560843a4333474a666a2cd8a31d066de8412c47728297e38c65", func := "brazier/brazierlaw02.DigestPieces", spec := "digestPieces", apart := false, narrowed := true }
def DigestPiecesUptoSaid : Prop := digestPiecesUptoRow.holds Try.pinned (OpenSpec.upto digestPiecesSpec)

end Rows
end Go.Proofs.Ytijjopioamdahaa
