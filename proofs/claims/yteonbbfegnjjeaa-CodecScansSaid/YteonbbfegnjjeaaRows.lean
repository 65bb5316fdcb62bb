/-
  No cell of these rows narrows 'for every input' (looked for: loops, veiled, ifaces, maps, wideKeys, modest, calm, conditions, laid).
  DERIVED. THE GIVEN ROWS OF THIS SEAT. 6 by the template 'for every input the law returns true; each argument reads behind the call as it read before'; 0 by the template 'total and deterministic' (their statements: YteonbbfegnjjeaaTotals.lean).
  GIVEN WITH THE SEED: the statements are not yours to turn. If you find one false, say at which input.
  Laid BY PROGRAM, IN A SANDBOX (cutbox-rows.mjs): the forced cells as the released guide's own fill.sh prints them over the translation c72ccc289f7e7561… (all of the seat's roots in one cut). By AI agents, Wed Nov 11 2026. No macro, syntax, notation, axiom, sorry.
-/
import Derived.Test.YteonbbfegnjjeaaChecked
import GoSem.Claim
import GoSem.ClaimJoined
import GoSem.ClaimMapViews
import Derived.JoinedTies
import Derived.KernelRfl
namespace Go.Proofs.Yteonbbfegnjjeaa
/- THE CELL 'sum', in the pinned program and in every row, IS THE sha256 OF THE DUMP (.gsa) THAT YteonbbfegnjjeaaProg.lean LOADS. Nothing in Lean hashes anything: it is a label: what it is worth is what the hold of that sum in a sandbox is worth. -/
noncomputable def Try.pinned : Pinned := { name := "yteonbbfegnjjeaa", sum := "c72ccc289f7e7561582675333bbcdff3b098811d23cb1096e0094699421a6770", checked := Try.checked }
namespace Rows
def none {H : Type} : Left H := { results := [], args := [] }

/-- 'hypogeumlaw17.CodecPuts': WHATEVER THE INPUT: true; the input reads as it did. -/
def codecPutsSpec : ChangeSpec := { name := "codecPuts", fn := fun _ => fun
  | [d1, d2, d3] => { results := [.lit (.bool true)], args := [d1, d2, d3] }
  | _ => none }
def codecPutsRow : OpenClaim := { program := "yteonbbfegnjjeaa", sum := "c72ccc289f7e7561582675333bbcdff3b098811d23cb1096e0094699421a6770", func := "hypogeum/hypogeumlaw17.CodecPuts", spec := "codecPuts", recurses := true, apart := false }
def CodecPutsSaid : Prop := codecPutsRow.holds Try.pinned (OpenSpec.ofChange codecPutsSpec)

/-- ITS FALSE NEIGHBOUR: 'it returns false'. Refute it at one input. -/
def codecPutsWrong : ChangeSpec := { name := "codecPuts", fn := fun _ => fun
  | [d1, d2, d3] => { results := [.lit (.bool false)], args := [d1, d2, d3] }
  | _ => none }
def CodecPutsWrongFalsely : Prop := codecPutsRow.holds Try.pinned (OpenSpec.ofChange codecPutsWrong)

/-- 'hypogeumlaw17.CodecBack': WHATEVER THE INPUT: true; the input reads as it did. -/
def codecBackSpec : ChangeSpec := { name := "codecBack", fn := fun _ => fun
  | [d1, d2, d3] => { results := [.lit (.bool true)], args := [d1, d2, d3] }
  | _ => none }
def codecBackRow : OpenClaim := { program := "yteonbbfegnjjeaa", sum := "c72ccc289f7e7561582675333bbcdff3b098811d23cb1096e0094699421a6770", func := "hypogeum/hypogeumlaw17.CodecBack", spec := "codecBack", apart := false }
def CodecBackSaid : Prop := codecBackRow.holds Try.pinned (OpenSpec.ofChange codecBackSpec)

/-- ITS FALSE NEIGHBOUR: 'it returns false'. Refute it at one input. -/
def codecBackWrong : ChangeSpec := { name := "codecBack", fn := fun _ => fun
  | [d1, d2, d3] => { results := [.lit (.bool false)], args := [d1, d2, d3] }
  | _ => none }
def CodecBackWrongFalsely : Prop := codecBackRow.holds Try.pinned (OpenSpec.ofChange codecBackWrong)

/-- 'hypogeumlaw17.CodecForm': WHATEVER THE INPUT: true; the input reads as it did. -/
def codecFormSpec : ChangeSpec := { name := "codecForm", fn := fun _ => fun
  | [d] => { results := [.lit (.bool true)], args := [d] }
  | _ => none }
def codecFormRow : OpenClaim := { program := "yteonbbfegnjjeaa", sum := "c72ccc289f7e7561582675333bbcdff3b098811d23cb1096e0094699421a6770", func := "hypogeum/hypogeumlaw17.CodecForm", spec := "codecForm", apart := false }
def CodecFormSaid : Prop := codecFormRow.holds Try.pinned (OpenSpec.ofChange codecFormSpec)

/-- ITS FALSE NEIGHBOUR: 'it returns false'. Refute it at one input. -/
def codecFormWrong : ChangeSpec := { name := "codecForm", fn := fun _ => fun
  | [d] => { results := [.lit (.bool false)], args := [d] }
  | _ => none }
def CodecFormWrongFalsely : Prop := codecFormRow.holds Try.pinned (OpenSpec.ofChange codecFormWrong)

/-- 'hypogeumlaw17.CodecCut': WHATEVER THE INPUT: true; the input reads as it did. -/
def codecCutSpec : ChangeSpec := { name := "codecCut", fn := fun _ => fun
  | [d1, d2, d3] => { results := [.lit (.bool true)], args := [d1, d2, d3] }
  | _ => none }
def codecCutRow : OpenClaim := { program := "yteonbbfegnjjeaa", sum := "c72ccc289f7e7561582675333bbcdff3b098811d23cb1096e0094699421a6770", func := "hypogeum/hypogeumlaw17.CodecCut", spec := "codecCut", apart := false }
def CodecCutSaid : Prop := codecCutRow.holds Try.pinned (OpenSpec.ofChange codecCutSpec)

/-- ITS FALSE NEIGHBOUR: 'it returns false'. Refute it at one input. -/
def codecCutWrong : ChangeSpec := { name := "codecCut", fn := fun _ => fun
  | [d1, d2, d3] => { results := [.lit (.bool false)], args := [d1, d2, d3] }
  | _ => none }
def CodecCutWrongFalsely : Prop := codecCutRow.holds Try.pinned (OpenSpec.ofChange codecCutWrong)

/-- 'hypogeumlaw17.CodecScans': WHATEVER THE INPUT: true; the input reads as it did. -/
def codecScansSpec : ChangeSpec := { name := "codecScans", fn := fun _ => fun
  | [d1, d2] => { results := [.lit (.bool true)], args := [d1, d2] }
  | _ => none }
def codecScansRow : OpenClaim := { program := "yteonbbfegnjjeaa", sum := "c72ccc289f7e7561582675333bbcdff3b098811d23cb1096e0094699421a6770", func := "hypogeum/hypogeumlaw17.CodecScans", spec := "codecScans", apart := false }
def CodecScansSaid : Prop := codecScansRow.holds Try.pinned (OpenSpec.ofChange codecScansSpec)

/-- ITS FALSE NEIGHBOUR: 'it returns false'. Refute it at one input. -/
def codecScansWrong : ChangeSpec := { name := "codecScans", fn := fun _ => fun
  | [d1, d2] => { results := [.lit (.bool false)], args := [d1, d2] }
  | _ => none }
def CodecScansWrongFalsely : Prop := codecScansRow.holds Try.pinned (OpenSpec.ofChange codecScansWrong)

/-- 'hypogeumlaw17.CodecNames': WHATEVER THE INPUT: true; the input reads as it did. -/
def codecNamesSpec : ChangeSpec := { name := "codecNames", fn := fun _ => fun
  | [d1, d2] => { results := [.lit (.bool true)], args := [d1, d2] }
  | _ => none }
def codecNamesRow : OpenClaim := { program := "yteonbbfegnjjeaa", sum := "c72ccc289f7e7561582675333bbcdff3b098811d23cb1096e0094699421a6770", func := "hypogeum/hypogeumlaw17.CodecNames", spec := "codecNames", unfollowed := true, recurses := true, apart := false }
def CodecNamesSaid : Prop := codecNamesRow.holds Try.pinned (OpenSpec.ofChange codecNamesSpec)

/-- ITS FALSE NEIGHBOUR: 'it returns false'. Refute it at one input. -/
def codecNamesWrong : ChangeSpec := { name := "codecNames", fn := fun _ => fun
  | [d1, d2] => { results := [.lit (.bool false)], args := [d1, d2] }
  | _ => none }
def CodecNamesWrongFalsely : Prop := codecNamesRow.holds Try.pinned (OpenSpec.ofChange codecNamesWrong)

/- THE SECOND FORM. 'bulk': how many values and letters a reading holds, each counted each time it is reached (what is shared counts as often as it is met; a slice's spare places count too). A statement '..UptoSaid' is the law's where the arguments, and the package variables that the reading takes, are together of bulk at most 1048576: NARROWER than '..Said'. Prove '..Said' where nothing that the law and all that it calls make is longer than what came in: it says more and counts as full. Else prove '..UptoSaid'. A law counts once. -/
mutual
def uptoBulk {H : Type} : DataW H → Nat
  | .lit (.string bytes) => bytes.length + 1
  | .lit _ => 1
  | .nil => 1
  | .ptr d => uptoBulk d + 1
  | .slice elems spare => uptoBulkAll elems + uptoBulkAll spare + 1
  | .agg parts => uptoBulkAll parts + 1
  | .iface _ d => uptoBulk d + 1
  | .map entries => uptoBulkEntries entries + 1
  | .held _ => 1
def uptoBulkAll {H : Type} : List (DataW H) → Nat
  | [] => 0
  | d :: r => uptoBulk d + uptoBulkAll r
def uptoBulkEntries {H : Type} : List (Lit × DataW H) → Nat
  | [] => 0
  | x :: r => uptoBulkEntry x + uptoBulkEntries r
def uptoBulkEntry {H : Type} : Lit × DataW H → Nat
  | (.string bytes, d) => bytes.length + uptoBulk d + 1
  | (_, d) => uptoBulk d + 1
 end
def uptoSmall : (H : Type) → List (DataW H) → Bool := fun _ ds => decide (uptoBulkAll ds ≤ 1048576)
def OpenSpec.upto (s : _root_.Go.ChangeSpec) : _root_.Go.OpenSpec := { _root_.Go.OpenSpec.ofChange s with cond := some uptoSmall }

/-- 'hypogeumlaw17.CodecPuts', WHERE WHAT IT READS IS OF BULK AT MOST 1048576: true; the input reads as it did. -/
def codecPutsUptoRow : OpenClaim := { program := "yteonbbfegnjjeaa", sum := "c72ccc289f7e7561582675333bbcdff3b098811d23cb1096e0094699421a6770", func := "hypogeum/hypogeumlaw17.CodecPuts", spec := "codecPuts", recurses := true, apart := false, narrowed := true }
def CodecPutsUptoSaid : Prop := codecPutsUptoRow.holds Try.pinned (OpenSpec.upto codecPutsSpec)

/-- 'hypogeumlaw17.CodecBack', WHERE WHAT IT READS IS OF BULK AT MOST 1048576: true; the input reads as it did. -/
def codecBackUptoRow : OpenClaim := { program := "yteonbbfegnjjeaa", sum := "c72ccc289f7e7561582675333bbcdff3b098811d23cb1096e0094699421a6770", func := "hypogeum/hypogeumlaw17.CodecBack", spec := "codecBack", apart := false, narrowed := true }
def CodecBackUptoSaid : Prop := codecBackUptoRow.holds Try.pinned (OpenSpec.upto codecBackSpec)

/-- 'hypogeumlaw17.CodecForm', WHERE WHAT IT READS IS OF BULK AT MOST 1048576: true; the input reads as it did. -/
def codecFormUptoRow : OpenClaim := { program := "yteonbbfegnjjeaa", sum := "c72ccc289f7e7561582675333bbcdff3b098811d23cb1096e0094699421a6770", func := "hypogeum/hypogeumlaw17.CodecForm", spec := "codecForm", apart := false, narrowed := true }
def CodecFormUptoSaid : Prop := codecFormUptoRow.holds Try.pinned (OpenSpec.upto codecFormSpec)

/-- 'hypogeumlaw17.CodecCut', WHERE WHAT IT READS IS OF BULK AT MOST 1048576: true; the input reads as it did. -/
def codecCutUptoRow : OpenClaim := { program := "yteonbbfegnjjeaa", sum := "c72ccc289f7e7561582675333bbcdff3b098811d23cb1096e0094699421a6770", func := "hypogeum/hypogeumlaw17.CodecCut", spec := "codecCut", apart := false, narrowed := true }
def CodecCutUptoSaid : Prop := codecCutUptoRow.holds Try.pinned (OpenSpec.upto codecCutSpec)

/-- 'hypogeumlaw17.CodecScans', WHERE WHAT IT READS IS OF BULK AT MOST 1048576: true; the input reads as it did. -/
def codecScansUptoRow : OpenClaim := { program := "yteonbbfegnjjeaa", sum := "c72ccc289f7e7561582675333bbcdff3b098811d23cb1096e0094699421a6770", func := "hypogeum/hypogeumlaw17.CodecScans", spec := "codecScans", apart := false, narrowed := true }
def CodecScansUptoSaid : Prop := codecScansUptoRow.holds Try.pinned (OpenSpec.upto codecScansSpec)

/-- 'hypogeumlaw17.CodecNames', WHERE WHAT IT READS IS OF BULK AT MOST 1048576: true; the input reads as it did. -/
def codecNamesUptoRow : OpenClaim := { program := "yteonbbfegnjjeaa", sum := "c72ccc289f7e7561582675333bbcdff3b098811d23cb1096e0094699421a6770", func := "hypogeum/hypogeumlaw17.CodecNames", spec := "codecNames", unfollowed := true, recurses := true, apart := false, narrowed := true }
def CodecNamesUptoSaid : Prop := codecNamesUptoRow.holds Try.pinned (OpenSpec.upto codecNamesSpec)

end Rows
end Go.Proofs.Yteonbbfegnjjeaa
