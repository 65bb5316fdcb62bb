/-
  No cell of these rows narrows 'for every input' (looked for: loops, veiled, ifaces, maps, wideKeys, modest, calm, conditions, laid).
  DERIVED. THE GIVEN ROWS OF THIS SEAT. 6 by the template 'for every input the law returns true; each argument reads behind the call as it read before'; 0 by the template 'total and deterministic' (their statements: YtmpfngooefpieaaTotals.lean).
  GIVEN WITH THE SEED: the statements are not yours to turn. If you find one false, say at which input.
  Laid BY PROGRAM, IN A SANDBOX (cutbox-rows.mjs): the forced cells as the released guide's own fill.sh prints them over the translation 5a89faffa0ddc344… (all of the seat's roots in one cut). By AI agents, Wed Nov 11 2026. No macro, syntax, notation, axiom, sorry.
-/
import Derived.Test.YtmpfngooefpieaaChecked
import GoSem.Claim
import GoSem.ClaimJoined
import GoSem.ClaimMapViews
import Derived.JoinedTies
import Derived.KernelRfl
namespace Go.Proofs.Ytmpfngooefpieaa
/- THE CELL 'sum', in the pinned program and in every row, IS THE sha256 OF THE DUMP (.gsa) THAT YtmpfngooefpieaaProg.lean LOADS. Nothing in Lean hashes anything: it is a label: what it is worth is what the hold of that sum in a sandbox is worth. -/
noncomputable def Try.pinned : Pinned := { name := "ytmpfngooefpieaa", sum := "5a89faffa0ddc3446169e31774ab13b99ce0324d6916c3266f67e3221b7a2acd", checked := Try.checked }
namespace Rows
def none {H : Type} : Left H := { results := [], args := [] }

/-- 'hypogeumlaw13.RollingValues': WHATEVER THE INPUT: true; the input reads as it did. -/
def rollingValuesSpec : ChangeSpec := { name := "rollingValues", fn := fun _ => fun
  | [d1, d2] => { results := [.lit (.bool true)], args := [d1, d2] }
  | _ => none }
def rollingValuesRow : OpenClaim := { program := "ytmpfngooefpieaa", sum := "5a89faffa0ddc3446169e31774ab13b99ce0324d6916c3266f67e3221b7a2acd", func := "hypogeum/hypogeumlaw13.RollingValues", spec := "rollingValues", apart := false }
def RollingValuesSaid : Prop := rollingValuesRow.holds Try.pinned (OpenSpec.ofChange rollingValuesSpec)

/-- ITS FALSE NEIGHBOUR: 'it returns false'. Refute it at one input. -/
def rollingValuesWrong : ChangeSpec := { name := "rollingValues", fn := fun _ => fun
  | [d1, d2] => { results := [.lit (.bool false)], args := [d1, d2] }
  | _ => none }
def RollingValuesWrongFalsely : Prop := rollingValuesRow.holds Try.pinned (OpenSpec.ofChange rollingValuesWrong)

/-- 'hypogeumlaw13.RollingWindow': WHATEVER THE INPUT: true; the input reads as it did. -/
def rollingWindowSpec : ChangeSpec := { name := "rollingWindow", fn := fun _ => fun
  | [d1, d2, d3, d4] => { results := [.lit (.bool true)], args := [d1, d2, d3, d4] }
  | _ => none }
def rollingWindowRow : OpenClaim := { program := "ytmpfngooefpieaa", sum := "5a89faffa0ddc3446169e31774ab13b99ce0324d6916c3266f67e3221b7a2acd", func := "hypogeum/hypogeumlaw13.RollingWindow", spec := "rollingWindow", apart := false }
def RollingWindowSaid : Prop := rollingWindowRow.holds Try.pinned (OpenSpec.ofChange rollingWindowSpec)

/-- ITS FALSE NEIGHBOUR: 'it returns false'. Refute it at one input. -/
def rollingWindowWrong : ChangeSpec := { name := "rollingWindow", fn := fun _ => fun
  | [d1, d2, d3, d4] => { results := [.lit (.bool false)], args := [d1, d2, d3, d4] }
  | _ => none }
def RollingWindowWrongFalsely : Prop := rollingWindowRow.holds Try.pinned (OpenSpec.ofChange rollingWindowWrong)

/-- 'hypogeumlaw13.RollingSums': WHATEVER THE INPUT: true; the input reads as it did. -/
def rollingSumsSpec : ChangeSpec := { name := "rollingSums", fn := fun _ => fun
  | [d1, d2, d3] => { results := [.lit (.bool true)], args := [d1, d2, d3] }
  | _ => none }
def rollingSumsRow : OpenClaim := { program := "ytmpfngooefpieaa", sum := "5a89faffa0ddc3446169e31774ab13b99ce0324d6916c3266f67e3221b7a2acd", func := "hypogeum/hypogeumlaw13.RollingSums", spec := "rollingSums", apart := false }
def RollingSumsSaid : Prop := rollingSumsRow.holds Try.pinned (OpenSpec.ofChange rollingSumsSpec)

/-- ITS FALSE NEIGHBOUR: 'it returns false'. Refute it at one input. -/
def rollingSumsWrong : ChangeSpec := { name := "rollingSums", fn := fun _ => fun
  | [d1, d2, d3] => { results := [.lit (.bool false)], args := [d1, d2, d3] }
  | _ => none }
def RollingSumsWrongFalsely : Prop := rollingSumsRow.holds Try.pinned (OpenSpec.ofChange rollingSumsWrong)

/-- 'hypogeumlaw13.RollingPushes': WHATEVER THE INPUT: true; the input reads as it did. -/
def rollingPushesSpec : ChangeSpec := { name := "rollingPushes", fn := fun _ => fun
  | [d1, d2, d3] => { results := [.lit (.bool true)], args := [d1, d2, d3] }
  | _ => none }
def rollingPushesRow : OpenClaim := { program := "ytmpfngooefpieaa", sum := "5a89faffa0ddc3446169e31774ab13b99ce0324d6916c3266f67e3221b7a2acd", func := "hypogeum/hypogeumlaw13.RollingPushes", spec := "rollingPushes", apart := false }
def RollingPushesSaid : Prop := rollingPushesRow.holds Try.pinned (OpenSpec.ofChange rollingPushesSpec)

/-- ITS FALSE NEIGHBOUR: 'it returns false'. Refute it at one input. -/
def rollingPushesWrong : ChangeSpec := { name := "rollingPushes", fn := fun _ => fun
  | [d1, d2, d3] => { results := [.lit (.bool false)], args := [d1, d2, d3] }
  | _ => none }
def RollingPushesWrongFalsely : Prop := rollingPushesRow.holds Try.pinned (OpenSpec.ofChange rollingPushesWrong)

/-- 'hypogeumlaw13.RollingCopies': WHATEVER THE INPUT: true; the input reads as it did. -/
def rollingCopiesSpec : ChangeSpec := { name := "rollingCopies", fn := fun _ => fun
  | [d1, d2, d3, d4] => { results := [.lit (.bool true)], args := [d1, d2, d3, d4] }
  | _ => none }
def rollingCopiesRow : OpenClaim := { program := "ytmpfngooefpieaa", sum := "5a89faffa0ddc3446169e31774ab13b99ce0324d6916c3266f67e3221b7a2acd", func := "hypogeum/hypogeumlaw13.RollingCopies", spec := "rollingCopies", apart := false }
def RollingCopiesSaid : Prop := rollingCopiesRow.holds Try.pinned (OpenSpec.ofChange rollingCopiesSpec)

/-- ITS FALSE NEIGHBOUR: 'it returns false'. Refute it at one input. -/
def rollingCopiesWrong : ChangeSpec := { name := "rollingCopies", fn := fun _ => fun
  | [d1, d2, d3, d4] => { results := [.lit (.bool false)], args := [d1, d2, d3, d4] }
  | _ => none }
def RollingCopiesWrongFalsely : Prop := rollingCopiesRow.holds Try.pinned (OpenSpec.ofChange rollingCopiesWrong)

/-- 'hypogeumlaw13.RollingNobody': WHATEVER THE INPUT: true; the input reads as it did. -/
def rollingNobodySpec : ChangeSpec := { name := "rollingNobody", fn := fun _ => fun
  | [d] => { results := [.lit (.bool true)], args := [d] }
  | _ => none }
def rollingNobodyRow : OpenClaim := { program := "ytmpfngooefpieaa", sum := "5a89faffa0ddc3446169e31774ab13b99ce0324d6916c3266f67e3221b7a2acd", func := "hypogeum/hypogeumlaw13.RollingNobody", spec := "rollingNobody", apart := false }
def RollingNobodySaid : Prop := rollingNobodyRow.holds Try.pinned (OpenSpec.ofChange rollingNobodySpec)

/-- ITS FALSE NEIGHBOUR: 'it returns false'. Refute it at one input. -/
def rollingNobodyWrong : ChangeSpec := { name := "rollingNobody", fn := fun _ => fun
  | [d] => { results := [.lit (.bool false)], args := [d] }
  | _ => none }
def RollingNobodyWrongFalsely : Prop := rollingNobodyRow.holds Try.pinned (OpenSpec.ofChange rollingNobodyWrong)

/- THE SECOND FORM. 'bulk': how many values and letters a reading holds, each counted each time it is reached (what is shared counts as often as it is met; a slice's spare places count too). A statement '..UptoSaid' is the law's where the arguments, and the package variables that the reading takes, are together of bulk at most 1048576: NARROWER than '..Said'. Prove '..Said' where nothing that the law and all that it calls make is longer than what came in: it says more and counts as full. Else prove '..UptoSaid'. A law counts once. -/
mutual
def uptoBulk {H : Type} : DataW H → Nat
  | .lit (.string bytes) => bytes.length + 1
  | .lit _ => 1
  | .nil => 1
  | .ptr d => uptoBulk d + 1
  | .slice elems spare => uptoBulkAll elems + uptoBulkAll spare + 1
  | .agg parts => uptoBulkAll parts + 1
  | .iface _ d => uptoBulk d + 1
  | .map entries => uptoBulkEntries entries + 1
  | .held _ => 1
def uptoBulkAll {H : Type} : List (DataW H) → Nat
  | [] => 0
  | d :: r => uptoBulk d + uptoBulkAll r
def uptoBulkEntries {H : Type} : List (Lit × DataW H) → Nat
  | [] => 0
  | x :: r => uptoBulkEntry x + uptoBulkEntries r
def uptoBulkEntry {H : Type} : Lit × DataW H → Nat
  | (.string bytes, d) => bytes.length + uptoBulk d + 1
  | (_, d) => uptoBulk d + 1
 end
def uptoSmall : (H : Type) → List (DataW H) → Bool := fun _ ds => decide (uptoBulkAll ds ≤ 1048576)
def OpenSpec.upto (s : _root_.Go.ChangeSpec) : _root_.Go.OpenSpec := { _root_.Go.OpenSpec.ofChange s with cond := some uptoSmall }

/-- 'hypogeumlaw13.RollingValues', WHERE WHAT IT READS IS OF BULK AT MOST 1048576: true; the input reads as it did. -/
def rollingValuesUptoRow : OpenClaim := { program := "ytmpfngooefpieaa", sum := "5a89faffa0ddc3446169e31774ab13b99ce0324d6916c3266f67e3221b7a2acd", func := "hypogeum/hypogeumlaw13.RollingValues", spec := "rollingValues", apart := false, narrowed := true }
def RollingValuesUptoSaid : Prop := rollingValuesUptoRow.holds Try.pinned (OpenSpec.upto rollingValuesSpec)

/-- 'hypogeumlaw13.RollingWindow', WHERE WHAT IT READS IS OF BULK AT MOST 1048576: true; the input reads as it did. -/
def rollingWindowUptoRow : OpenClaim := { program := "ytmpfngooefpieaa", sum := "5a89faffa0ddc3446169e31774ab13b99ce0324d6916c3266f67e3221b7a2acd", func := "hypogeum/hypogeumlaw13.RollingWindow", spec := "rollingWindow", apart := false, narrowed := true }
def RollingWindowUptoSaid : Prop := rollingWindowUptoRow.holds Try.pinned (OpenSpec.upto rollingWindowSpec)

/-- 'hypogeumlaw13.RollingSums', WHERE WHAT IT READS IS OF BULK AT MOST 1048576: true; the input reads as it did. -/
def rollingSumsUptoRow : OpenClaim := { program := "ytmpfngooefpieaa", sum := "5a89faffa0ddc3446169e31774ab13b99ce0324d6916c3266f67e3221b7a2acd", func := "hypogeum/hypogeumlaw13.RollingSums", spec := "rollingSums", apart := false, narrowed := true }
def RollingSumsUptoSaid : Prop := rollingSumsUptoRow.holds Try.pinned (OpenSpec.upto rollingSumsSpec)

/-- 'hypogeumlaw13.RollingPushes', WHERE WHAT IT READS IS OF BULK AT MOST 1048576: true; the input reads as it did. -/
def rollingPushesUptoRow : OpenClaim := { program := "ytmpfngooefpieaa", sum := "5a89faffa0ddc3446169e31774ab13b99ce0324d6916c3266f67e3221b7a2acd", func := "hypogeum/hypogeumlaw13.RollingPushes", spec := "rollingPushes", apart := false, narrowed := true }
def RollingPushesUptoSaid : Prop := rollingPushesUptoRow.holds Try.pinned (OpenSpec.upto rollingPushesSpec)

/-- 'hypogeumlaw13.RollingCopies', WHERE WHAT IT READS IS OF BULK AT MOST 1048576: true; the input reads as it did. -/
def rollingCopiesUptoRow : OpenClaim := { program := "ytmpfngooefpieaa", sum := "5a89faffa0ddc3446169e31774ab13b99ce0324d6916c3266f67e3221b7a2acd", func := "hypogeum/hypogeumlaw13.RollingCopies", spec := "rollingCopies", apart := false, narrowed := true }
def RollingCopiesUptoSaid : Prop := rollingCopiesUptoRow.holds Try.pinned (OpenSpec.upto rollingCopiesSpec)

/-- 'hypogeumlaw13.RollingNobody', WHERE WHAT IT READS IS OF BULK AT MOST 1048576: true; the input reads as it did. -/
def rollingNobodyUptoRow : OpenClaim := { program := "ytmpfngooefpieaa", sum := "5a89faffa0ddc3446169e31774ab13b99ce0324d6916c3266f67e3221b7a2acd", func := "hypogeum/hypogeumlaw13.RollingNobody", spec := "rollingNobody", apart := false, narrowed := true }
def RollingNobodyUptoSaid : Prop := rollingNobodyUptoRow.holds Try.pinned (OpenSpec.upto rollingNobodySpec)

end Rows
end Go.Proofs.Ytmpfngooefpieaa
