/-
  No cell of these rows narrows 'for every input' (looked for: loops, veiled, ifaces, maps, wideKeys, modest, calm, conditions, laid).
  DERIVED. THE GIVEN ROWS OF THIS SEAT. 5 by the template 'for every input the law returns true; each argument reads behind the call as it read before'; 0 by the template 'total and deterministic' (their statements: YtkaabkoadoomjaaTotals.lean).
  GIVEN WITH THE SEED: the statements are not yours to turn. If you find one false, say at which input.
  Laid BY PROGRAM, IN A SANDBOX (cutbox-rows.mjs): the forced cells as the released guide's own fill.sh prints them over the translation 4245a3b775c7ee1d… (all of the seat's roots in one cut). By AI agents, Wed Nov 11 2026. No macro, syntax, notation, axiom, sorry.
-/
import Derived.Test.YtkaabkoadoomjaaChecked
import GoSem.Claim
import GoSem.ClaimJoined
import GoSem.ClaimMapViews
import Derived.JoinedTies
import Derived.KernelRfl
namespace Go.Proofs.Ytkaabkoadoomjaa
/- THE CELL 'sum', in the pinned program and in every row, IS THE sha256 OF THE DUMP (.gsa) THAT YtkaabkoadoomjaaProg.lean LOADS. Nothing in Lean hashes anything: it is a label: what it is worth is what the hold of that sum in a sandbox is worth. -/
noncomputable def Try.pinned : Pinned := { name := "ytkaabkoadoomjaa", sum := "4245a3b775c7ee1d7aa97fc6d6dbcd6378622eab9a90551394b81036d5ef0247", checked := Try.checked }
namespace Rows
def none {H : Type} : Left H := { results := [], args := [] }

/-- 'hypogeumlaw14.CutterLengths': WHATEVER THE INPUT: true; the input reads as it did. -/
def cutterLengthsSpec : ChangeSpec := { name := "cutterLengths", fn := fun _ => fun
  | [d1, d2] => { results := [.lit (.bool true)], args := [d1, d2] }
  | _ => none }
def cutterLengthsRow : OpenClaim := { program := "ytkaabkoadoomjaa", sum := "4245a3b775c7ee1d7aa97fc6d6dbcd6378622eab9a90551394b81036d5ef0247", func := "hypogeum/hypogeumlaw14.CutterLengths", spec := "cutterLengths", unfollowed := true, recurses := true, apart := false }
def CutterLengthsSaid : Prop := cutterLengthsRow.holds Try.pinned (OpenSpec.ofChange cutterLengthsSpec)

/-- ITS FALSE NEIGHBOUR: 'it returns false'. Refute it at one input. -/
def cutterLengthsWrong : ChangeSpec := { name := "cutterLengths", fn := fun _ => fun
  | [d1, d2] => { results := [.lit (.bool false)], args := [d1, d2] }
  | _ => none }
def CutterLengthsWrongFalsely : Prop := cutterLengthsRow.holds Try.pinned (OpenSpec.ofChange cutterLengthsWrong)

/-- 'hypogeumlaw14.CutterPieces': WHATEVER THE INPUT: true; the input reads as it did. -/
def cutterPiecesSpec : ChangeSpec := { name := "cutterPieces", fn := fun _ => fun
  | [d1, d2, d3] => { results := [.lit (.bool true)], args := [d1, d2, d3] }
  | _ => none }
def cutterPiecesRow : OpenClaim := { program := "ytkaabkoadoomjaa", sum := "4245a3b775c7ee1d7aa97fc6d6dbcd6378622eab9a90551394b81036d5ef0247", func := "hypogeum/hypogeumlaw14.CutterPieces", spec := "cutterPieces", unfollowed := true, recurses := true, apart := false }
def CutterPiecesSaid : Prop := cutterPiecesRow.holds Try.pinned (OpenSpec.ofChange cutterPiecesSpec)

/-- ITS FALSE NEIGHBOUR: 'it returns false'. Refute it at one input. -/
def cutterPiecesWrong : ChangeSpec := { name := "cutterPieces", fn := fun _ => fun
  | [d1, d2, d3] => { results := [.lit (.bool false)], args := [d1, d2, d3] }
  | _ => none }
def CutterPiecesWrongFalsely : Prop := cutterPiecesRow.holds Try.pinned (OpenSpec.ofChange cutterPiecesWrong)

/-- 'hypogeumlaw14.CutterSums': WHATEVER THE INPUT: true; the input reads as it did. -/
def cutterSumsSpec : ChangeSpec := { name := "cutterSums", fn := fun _ => fun
  | [d1, d2] => { results := [.lit (.bool true)], args := [d1, d2] }
  | _ => none }
def cutterSumsRow : OpenClaim := { program := "ytkaabkoadoomjaa", sum := "4245a3b775c7ee1d7aa97fc6d6dbcd6378622eab9a90551394b81036d5ef0247", func := "hypogeum/hypogeumlaw14.CutterSums", spec := "cutterSums", unfollowed := true, recurses := true, apart := false }
def CutterSumsSaid : Prop := cutterSumsRow.holds Try.pinned (OpenSpec.ofChange cutterSumsSpec)

/-- ITS FALSE NEIGHBOUR: 'it returns false'. Refute it at one input. -/
def cutterSumsWrong : ChangeSpec := { name := "cutterSums", fn := fun _ => fun
  | [d1, d2] => { results := [.lit (.bool false)], args := [d1, d2] }
  | _ => none }
def CutterSumsWrongFalsely : Prop := cutterSumsRow.holds Try.pinned (OpenSpec.ofChange cutterSumsWrong)

/-- 'hypogeumlaw14.CutterLocal': WHATEVER THE INPUT: true; the input reads as it did. -/
def cutterLocalSpec : ChangeSpec := { name := "cutterLocal", fn := fun _ => fun
  | [d1, d2, d3] => { results := [.lit (.bool true)], args := [d1, d2, d3] }
  | _ => none }
def cutterLocalRow : OpenClaim := { program := "ytkaabkoadoomjaa", sum := "4245a3b775c7ee1d7aa97fc6d6dbcd6378622eab9a90551394b81036d5ef0247", func := "hypogeum/hypogeumlaw14.CutterLocal", spec := "cutterLocal", unfollowed := true, recurses := true, apart := false }
def CutterLocalSaid : Prop := cutterLocalRow.holds Try.pinned (OpenSpec.ofChange cutterLocalSpec)

/-- ITS FALSE NEIGHBOUR: 'it returns false'. Refute it at one input. -/
def cutterLocalWrong : ChangeSpec := { name := "cutterLocal", fn := fun _ => fun
  | [d1, d2, d3] => { results := [.lit (.bool false)], args := [d1, d2, d3] }
  | _ => none }
def CutterLocalWrongFalsely : Prop := cutterLocalRow.holds Try.pinned (OpenSpec.ofChange cutterLocalWrong)

/-- 'hypogeumlaw14.CutterPushes': WHATEVER THE INPUT: true; the input reads as it did. -/
def cutterPushesSpec : ChangeSpec := { name := "cutterPushes", fn := fun _ => fun
  | [d1, d2] => { results := [.lit (.bool true)], args := [d1, d2] }
  | _ => none }
def cutterPushesRow : OpenClaim := { program := "ytkaabkoadoomjaa", sum := "4245a3b775c7ee1d7aa97fc6d6dbcd6378622eab9a90551394b81036d5ef0247", func := "hypogeum/hypogeumlaw14.CutterPushes", spec := "cutterPushes", unfollowed := true, recurses := true, apart := false }
def CutterPushesSaid : Prop := cutterPushesRow.holds Try.pinned (OpenSpec.ofChange cutterPushesSpec)

/-- ITS FALSE NEIGHBOUR: 'it returns false'. Refute it at one input. -/
def cutterPushesWrong : ChangeSpec := { name := "cutterPushes", fn := fun _ => fun
  | [d1, d2] => { results := [.lit (.bool false)], args := [d1, d2] }
  | _ => none }
def CutterPushesWrongFalsely : Prop := cutterPushesRow.holds Try.pinned (OpenSpec.ofChange cutterPushesWrong)

/- THE SECOND FORM. 'bulk': how many values and letters a reading holds, each counted each time it is reached (what is shared counts as often as it is met; a slice's spare places count too). A statement '..UptoSaid' is the law's where the arguments, and the package variables that the reading takes, are together of bulk at most 1048576: NARROWER than '..Said'. Prove '..Said' where nothing that the law and all that it calls make is longer than what came in: it says more and counts as full. Else prove '..UptoSaid'. A law counts once. -/
mutual
def uptoBulk {H : Type} : DataW H → Nat
  | .lit (.string bytes) => bytes.length + 1
  | .lit _ => 1
  | .nil => 1
  | .ptr d => uptoBulk d + 1
  | .slice elems spare => uptoBulkAll elems + uptoBulkAll spare + 1
  | .agg parts => uptoBulkAll parts + 1
  | .iface _ d => uptoBulk d + 1
  | .map entries => uptoBulkEntries entries + 1
  | .held _ => 1
def uptoBulkAll {H : Type} : List (DataW H) → Nat
  | [] => 0
  | d :: r => uptoBulk d + uptoBulkAll r
def uptoBulkEntries {H : Type} : List (Lit × DataW H) → Nat
  | [] => 0
  | x :: r => uptoBulkEntry x + uptoBulkEntries r
def uptoBulkEntry {H : Type} : Lit × DataW H → Nat
  | (.string bytes, d) => bytes.length + uptoBulk d + 1
  | (_, d) => uptoBulk d + 1
 end
def uptoSmall : (H : Type) → List (DataW H) → Bool := fun _ ds => decide (uptoBulkAll ds ≤ 1048576)
def OpenSpec.upto (s : _root_.Go.ChangeSpec) : _root_.Go.OpenSpec := { _root_.Go.OpenSpec.ofChange s with cond := some uptoSmall }

/-- 'hypogeumlaw14.CutterLengths', WHERE WHAT IT READS IS OF BULK AT MOST 1048576: true; the input reads as it did. -/
def cutterLengthsUptoRow : OpenClaim := { program := "ytkaabkoadoomjaa", sum := "4245a3b775c7ee1d7aa97fc6d6dbcd6378622eab9a90551394b81036d5ef0247", func := "hypogeum/hypogeumlaw14.CutterLengths", spec := "cutterLengths", unfollowed := true, recurses := true, apart := false, narrowed := true }
def CutterLengthsUptoSaid : Prop := cutterLengthsUptoRow.holds Try.pinned (OpenSpec.upto cutterLengthsSpec)

/-- 'hypogeumlaw14.CutterPieces', WHERE WHAT IT READS IS OF BULK AT MOST 1048576: true; the input reads as it did. -/
def cutterPiecesUptoRow : OpenClaim := { program := "ytkaabkoadoomjaa", sum := "4245a3b775c7ee1d7aa97fc6d6dbcd6378622eab9a90551394b81036d5ef0247", func := "hypogeum/hypogeumlaw14.CutterPieces", spec := "cutterPieces", unfollowed := true, recurses := true, apart := false, narrowed := true }
def CutterPiecesUptoSaid : Prop := cutterPiecesUptoRow.holds Try.pinned (OpenSpec.upto cutterPiecesSpec)

/-- 'hypogeumlaw14.CutterSums', WHERE WHAT IT READS IS OF BULK AT MOST 1048576: true; the input reads as it did. -/
def cutterSumsUptoRow : OpenClaim := { program := "ytkaabkoadoomjaa", sum := "4245a3b775c7ee1d7aa97fc6d6dbcd6378622eab9a90551394b81036d5ef0247", func := "hypogeum/hypogeumlaw14.CutterSums", spec := "cutterSums", unfollowed := true, recurses := true, apart := false, narrowed := true }
def CutterSumsUptoSaid : Prop := cutterSumsUptoRow.holds Try.pinned (OpenSpec.upto cutterSumsSpec)

/-- 'hypogeumlaw14.CutterLocal', WHERE WHAT IT READS IS OF BULK AT MOST 1048576: true; the input reads as it did. -/
def cutterLocalUptoRow : OpenClaim := { program := "ytkaabkoadoomjaa", sum := "4245a3b775c7ee1d7aa97fc6d6dbcd6378622eab9a90551394b81036d5ef0247", func := "hypogeum/hypogeumlaw14.CutterLocal", spec := "cutterLocal", unfollowed := true, recurses := true, apart := false, narrowed := true }
def CutterLocalUptoSaid : Prop := cutterLocalUptoRow.holds Try.pinned (OpenSpec.upto cutterLocalSpec)

/-- 'hypogeumlaw14.CutterPushes', WHERE WHAT IT READS IS OF BULK AT MOST 1048576: true; the input reads as it did. -/
def cutterPushesUptoRow : OpenClaim := { program := "ytkaabkoadoomjaa", sum := "4245a3b775c7ee1d7aa97fc6d6dbcd6378622eab9a90551394b81036d5ef0247", func := "hypogeum/hypogeumlaw14.CutterPushes", spec := "cutterPushes", unfollowed := true, recurses := true, apart := false, narrowed := true }
def CutterPushesUptoSaid : Prop := cutterPushesUptoRow.holds Try.pinned (OpenSpec.upto cutterPushesSpec)

end Rows
end Go.Proofs.Ytkaabkoadoomjaa
