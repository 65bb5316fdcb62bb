/-
  No cell of these rows narrows 'for every input' (looked for: loops, veiled, ifaces, maps, wideKeys, modest, calm, conditions, laid).
  DERIVED. THE GIVEN ROWS OF THIS SEAT. 10 by the template 'for every input the law returns true; each argument reads behind the call as it read before'; 0 by the template 'total and deterministic' (their statements: YtgkkimonpfhbdaaTotals.lean).
  GIVEN WITH THE SEED: the statements are not yours to turn. If you find one false, say at which input.
  Laid BY PROGRAM, IN A SANDBOX (cutbox-rows.mjs): the forced cells as the released guide's own fill.sh prints them over the translation 1948c65a3a9b0b70… (all of the seat's roots in one cut). By AI agents, Wed Nov 11 2026. No macro, syntax, notation, axiom, sorry.
-/
import Derived.Test.YtgkkimonpfhbdaaChecked
import GoSem.Claim
import GoSem.ClaimJoined
import GoSem.ClaimMapViews
import Derived.JoinedTies
import Derived.KernelRfl
namespace Go.Proofs.Ytgkkimonpfhbdaa
/- THE CELL 'sum', in the pinned program and in every row, IS THE sha256 OF THE DUMP (.gsa) THAT YtgkkimonpfhbdaaProg.lean LOADS. Nothing in Lean hashes anything: it is a label: what it is worth is what the hold of that sum in a sandbox is worth. -/
noncomputable def Try.pinned : Pinned := { name := "ytgkkimonpfhbdaa", sum := "1948c65a3a9b0b70f7abb7306ab215f28729203ed462e33426d9b640623b9674", checked := Try.checked }
namespace Rows
def none {H : Type} : Left H := { results := [], args := [] }

/-- 'hypogeumlaw12.Gf2Left': WHATEVER THE INPUT: true; the input reads as it did. -/
def gf2LeftSpec : ChangeSpec := { name := "gf2Left", fn := fun _ => fun
  | [d1, d2] => { results := [.lit (.bool true)], args := [d1, d2] }
  | _ => none }
def gf2LeftRow : OpenClaim := { program := "ytgkkimonpfhbdaa", sum := "1948c65a3a9b0b70f7abb7306ab215f28729203ed462e33426d9b640623b9674", func := "hypogeum/hypogeumlaw12.Gf2Left", spec := "gf2Left", apart := false }
def Gf2LeftSaid : Prop := gf2LeftRow.holds Try.pinned (OpenSpec.ofChange gf2LeftSpec)

/-- ITS FALSE NEIGHBOUR: 'it returns false'. Refute it at one input. -/
def gf2LeftWrong : ChangeSpec := { name := "gf2Left", fn := fun _ => fun
  | [d1, d2] => { results := [.lit (.bool false)], args := [d1, d2] }
  | _ => none }
def Gf2LeftWrongFalsely : Prop := gf2LeftRow.holds Try.pinned (OpenSpec.ofChange gf2LeftWrong)

/-- 'hypogeumlaw12.Gf2Products': WHATEVER THE INPUT: true; the input reads as it did. -/
def gf2ProductsSpec : ChangeSpec := { name := "gf2Products", fn := fun _ => fun
  | [d1, d2, d3] => { results := [.lit (.bool true)], args := [d1, d2, d3] }
  | _ => none }
def gf2ProductsRow : OpenClaim := { program := "ytgkkimonpfhbdaa", sum := "1948c65a3a9b0b70f7abb7306ab215f28729203ed462e33426d9b640623b9674", func := "hypogeum/hypogeumlaw12.Gf2Products", spec := "gf2Products", apart := false }
def Gf2ProductsSaid : Prop := gf2ProductsRow.holds Try.pinned (OpenSpec.ofChange gf2ProductsSpec)

/-- ITS FALSE NEIGHBOUR: 'it returns false'. Refute it at one input. -/
def gf2ProductsWrong : ChangeSpec := { name := "gf2Products", fn := fun _ => fun
  | [d1, d2, d3] => { results := [.lit (.bool false)], args := [d1, d2, d3] }
  | _ => none }
def Gf2ProductsWrongFalsely : Prop := gf2ProductsRow.holds Try.pinned (OpenSpec.ofChange gf2ProductsWrong)

/-- 'hypogeumlaw12.Gf2Squares': WHATEVER THE INPUT: true; the input reads as it did. -/
def gf2SquaresSpec : ChangeSpec := { name := "gf2Squares", fn := fun _ => fun
  | [d1, d2, d3] => { results := [.lit (.bool true)], args := [d1, d2, d3] }
  | _ => none }
def gf2SquaresRow : OpenClaim := { program := "ytgkkimonpfhbdaa", sum := "1948c65a3a9b0b70f7abb7306ab215f28729203ed462e33426d9b640623b9674", func := "hypogeum/hypogeumlaw12.Gf2Squares", spec := "gf2Squares", apart := false }
def Gf2SquaresSaid : Prop := gf2SquaresRow.holds Try.pinned (OpenSpec.ofChange gf2SquaresSpec)

/-- ITS FALSE NEIGHBOUR: 'it returns false'. Refute it at one input. -/
def gf2SquaresWrong : ChangeSpec := { name := "gf2Squares", fn := fun _ => fun
  | [d1, d2, d3] => { results := [.lit (.bool false)], args := [d1, d2, d3] }
  | _ => none }
def Gf2SquaresWrongFalsely : Prop := gf2SquaresRow.holds Try.pinned (OpenSpec.ofChange gf2SquaresWrong)

/-- 'hypogeumlaw12.Gf2Common': WHATEVER THE INPUT: true; the input reads as it did. -/
def gf2CommonSpec : ChangeSpec := { name := "gf2Common", fn := fun _ => fun
  | [d1, d2, d3] => { results := [.lit (.bool true)], args := [d1, d2, d3] }
  | _ => none }
def gf2CommonRow : OpenClaim := { program := "ytgkkimonpfhbdaa", sum := "1948c65a3a9b0b70f7abb7306ab215f28729203ed462e33426d9b640623b9674", func := "hypogeum/hypogeumlaw12.Gf2Common", spec := "gf2Common", apart := false }
def Gf2CommonSaid : Prop := gf2CommonRow.holds Try.pinned (OpenSpec.ofChange gf2CommonSpec)

/-- ITS FALSE NEIGHBOUR: 'it returns false'. Refute it at one input. -/
def gf2CommonWrong : ChangeSpec := { name := "gf2Common", fn := fun _ => fun
  | [d1, d2, d3] => { results := [.lit (.bool false)], args := [d1, d2, d3] }
  | _ => none }
def Gf2CommonWrongFalsely : Prop := gf2CommonRow.holds Try.pinned (OpenSpec.ofChange gf2CommonWrong)

/-- 'hypogeumlaw12.Gf2Prime': WHATEVER THE INPUT: true; the input reads as it did. -/
def gf2PrimeSpec : ChangeSpec := { name := "gf2Prime", fn := fun _ => fun
  | [d] => { results := [.lit (.bool true)], args := [d] }
  | _ => none }
def gf2PrimeRow : OpenClaim := { program := "ytgkkimonpfhbdaa", sum := "1948c65a3a9b0b70f7abb7306ab215f28729203ed462e33426d9b640623b9674", func := "hypogeum/hypogeumlaw12.Gf2Prime", spec := "gf2Prime", apart := false }
def Gf2PrimeSaid : Prop := gf2PrimeRow.holds Try.pinned (OpenSpec.ofChange gf2PrimeSpec)

/-- ITS FALSE NEIGHBOUR: 'it returns false'. Refute it at one input. -/
def gf2PrimeWrong : ChangeSpec := { name := "gf2Prime", fn := fun _ => fun
  | [d] => { results := [.lit (.bool false)], args := [d] }
  | _ => none }
def Gf2PrimeWrongFalsely : Prop := gf2PrimeRow.holds Try.pinned (OpenSpec.ofChange gf2PrimeWrong)

/-- 'hypogeumlaw12.Gf2Finds': WHATEVER THE INPUT: true; the input reads as it did. -/
def gf2FindsSpec : ChangeSpec := { name := "gf2Finds", fn := fun _ => fun
  | [d1, d2] => { results := [.lit (.bool true)], args := [d1, d2] }
  | _ => none }
def gf2FindsRow : OpenClaim := { program := "ytgkkimonpfhbdaa", sum := "1948c65a3a9b0b70f7abb7306ab215f28729203ed462e33426d9b640623b9674", func := "hypogeum/hypogeumlaw12.Gf2Finds", spec := "gf2Finds", apart := false }
def Gf2FindsSaid : Prop := gf2FindsRow.holds Try.pinned (OpenSpec.ofChange gf2FindsSpec)

/-- ITS FALSE NEIGHBOUR: 'it returns false'. Refute it at one input. -/
def gf2FindsWrong : ChangeSpec := { name := "gf2Finds", fn := fun _ => fun
  | [d1, d2] => { results := [.lit (.bool false)], args := [d1, d2] }
  | _ => none }
def Gf2FindsWrongFalsely : Prop := gf2FindsRow.holds Try.pinned (OpenSpec.ofChange gf2FindsWrong)

/-- 'hypogeumlaw12.Gf2Found': WHATEVER THE INPUT: true; the input reads as it did. -/
def gf2FoundSpec : ChangeSpec := { name := "gf2Found", fn := fun _ => fun
  | [d1, d2] => { results := [.lit (.bool true)], args := [d1, d2] }
  | _ => none }
def gf2FoundRow : OpenClaim := { program := "ytgkkimonpfhbdaa", sum := "1948c65a3a9b0b70f7abb7306ab215f28729203ed462e33426d9b640623b9674", func := "hypogeum/hypogeumlaw12.Gf2Found", spec := "gf2Found", apart := false }
def Gf2FoundSaid : Prop := gf2FoundRow.holds Try.pinned (OpenSpec.ofChange gf2FoundSpec)

/-- ITS FALSE NEIGHBOUR: 'it returns false'. Refute it at one input. -/
def gf2FoundWrong : ChangeSpec := { name := "gf2Found", fn := fun _ => fun
  | [d1, d2] => { results := [.lit (.bool false)], args := [d1, d2] }
  | _ => none }
def Gf2FoundWrongFalsely : Prop := gf2FoundRow.holds Try.pinned (OpenSpec.ofChange gf2FoundWrong)

/-- 'hypogeumlaw12.Gf2Order': WHATEVER THE INPUT: true; the input reads as it did. -/
def gf2OrderSpec : ChangeSpec := { name := "gf2Order", fn := fun _ => fun
  | [d1, d2, d3, d4] => { results := [.lit (.bool true)], args := [d1, d2, d3, d4] }
  | _ => none }
def gf2OrderRow : OpenClaim := { program := "ytgkkimonpfhbdaa", sum := "1948c65a3a9b0b70f7abb7306ab215f28729203ed462e33426d9b640623b9674", func := "hypogeum/hypogeumlaw12.Gf2Order", spec := "gf2Order", apart := false }
def Gf2OrderSaid : Prop := gf2OrderRow.holds Try.pinned (OpenSpec.ofChange gf2OrderSpec)

/-- ITS FALSE NEIGHBOUR: 'it returns false'. Refute it at one input. -/
def gf2OrderWrong : ChangeSpec := { name := "gf2Order", fn := fun _ => fun
  | [d1, d2, d3, d4] => { results := [.lit (.bool false)], args := [d1, d2, d3, d4] }
  | _ => none }
def Gf2OrderWrongFalsely : Prop := gf2OrderRow.holds Try.pinned (OpenSpec.ofChange gf2OrderWrong)

/-- 'hypogeumlaw12.Gf2Factors': WHATEVER THE INPUT: true; the input reads as it did. -/
def gf2FactorsSpec : ChangeSpec := { name := "gf2Factors", fn := fun _ => fun
  | [d1, d2] => { results := [.lit (.bool true)], args := [d1, d2] }
  | _ => none }
def gf2FactorsRow : OpenClaim := { program := "ytgkkimonpfhbdaa", sum := "1948c65a3a9b0b70f7abb7306ab215f28729203ed462e33426d9b640623b9674", func := "hypogeum/hypogeumlaw12.Gf2Factors", spec := "gf2Factors", apart := false }
def Gf2FactorsSaid : Prop := gf2FactorsRow.holds Try.pinned (OpenSpec.ofChange gf2FactorsSpec)

/-- ITS FALSE NEIGHBOUR: 'it returns false'. Refute it at one input. -/
def gf2FactorsWrong : ChangeSpec := { name := "gf2Factors", fn := fun _ => fun
  | [d1, d2] => { results := [.lit (.bool false)], args := [d1, d2] }
  | _ => none }
def Gf2FactorsWrongFalsely : Prop := gf2FactorsRow.holds Try.pinned (OpenSpec.ofChange gf2FactorsWrong)

/-- 'hypogeumlaw12.Gf2Circle': WHATEVER THE INPUT: true; the input reads as it did. -/
def gf2CircleSpec : ChangeSpec := { name := "gf2Circle", fn := fun _ => fun
  | [d] => { results := [.lit (.bool true)], args := [d] }
  | _ => none }
def gf2CircleRow : OpenClaim := { program := "ytgkkimonpfhbdaa", sum := "1948c65a3a9b0b70f7abb7306ab215f28729203ed462e33426d9b640623b9674", func := "hypogeum/hypogeumlaw12.Gf2Circle", spec := "gf2Circle", apart := false }
def Gf2CircleSaid : Prop := gf2CircleRow.holds Try.pinned (OpenSpec.ofChange gf2CircleSpec)

/-- ITS FALSE NEIGHBOUR: 'it returns false'. Refute it at one input. -/
def gf2CircleWrong : ChangeSpec := { name := "gf2Circle", fn := fun _ => fun
  | [d] => { results := [.lit (.bool false)], args := [d] }
  | _ => none }
def Gf2CircleWrongFalsely : Prop := gf2CircleRow.holds Try.pinned (OpenSpec.ofChange gf2CircleWrong)

/- THE SECOND FORM. 'bulk': how many values and letters a reading holds, each counted each time it is reached (what is shared counts as often as it is met; a slice's spare places count too). A statement '..UptoSaid' is the law's where the arguments, and the package variables that the reading takes, are together of bulk at most 1048576: NARROWER than '..Said'. Prove '..Said' where nothing that the law and all that it calls make is longer than what came in: it says more and counts as full. Else prove '..UptoSaid'. A law counts once. -/
mutual
def uptoBulk {H : Type} : DataW H → Nat
  | .lit (.string bytes) => bytes.length + 1
  | .lit _ => 1
  | .nil => 1
  | .ptr d => uptoBulk d + 1
  | .slice elems spare => uptoBulkAll elems + uptoBulkAll spare + 1
  | .agg parts => uptoBulkAll parts + 1
  | .iface _ d => uptoBulk d + 1
  | .map entries => uptoBulkEntries entries + 1
  | .held _ => 1
def uptoBulkAll {H : Type} : List (DataW H) → Nat
  | [] => 0
  | d :: r => uptoBulk d + uptoBulkAll r
def uptoBulkEntries {H : Type} : List (Lit × DataW H) → Nat
  | [] => 0
  | x :: r => uptoBulkEntry x + uptoBulkEntries r
def uptoBulkEntry {H : Type} : Lit × DataW H → Nat
  | (.string bytes, d) => bytes.length + uptoBulk d + 1
  | (_, d) => uptoBulk d + 1
 end
def uptoSmall : (H : Type) → List (DataW H) → Bool := fun _ ds => decide (uptoBulkAll ds ≤ 1048576)
def OpenSpec.upto (s : _root_.Go.ChangeSpec) : _root_.Go.OpenSpec := { _root_.Go.OpenSpec.ofChange s with cond := some uptoSmall }

/-- 'hypogeumlaw12.Gf2Left', WHERE WHAT IT READS IS OF BULK AT MOST 1048576: true; the input reads as it did. -/
def gf2LeftUptoRow : OpenClaim := { program := "ytgkkimonpfhbdaa", sum := "1948c65a3a9b0b70f7abb7306ab215f28729203ed462e33426d9b640623b9674", func := "hypogeum/hypogeumlaw12.Gf2Left", spec := "gf2Left", apart := false, narrowed := true }
def Gf2LeftUptoSaid : Prop := gf2LeftUptoRow.holds Try.pinned (OpenSpec.upto gf2LeftSpec)

/-- 'hypogeumlaw12.Gf2Products', WHERE WHAT IT READS IS OF BULK AT MOST 1048576: true; the input reads as it did. -/
def gf2ProductsUptoRow : OpenClaim := { program := "ytgkkimonpfhbdaa", sum := "1948c65a3a9b0b70f7abb7306ab215f28729203ed462e33426d9b640623b9674", func := "hypogeum/hypogeumlaw12.Gf2Products", spec := "gf2Products", apart := false, narrowed := true }
def Gf2ProductsUptoSaid : Prop := gf2ProductsUptoRow.holds Try.pinned (OpenSpec.upto gf2ProductsSpec)

/-- 'hypogeumlaw12.Gf2Squares', WHERE WHAT IT READS IS OF BULK AT MOST 1048576: true; the input reads as it did. -/
def gf2SquaresUptoRow : OpenClaim := { program := "ytgkkimonpfhbdaa", sum := "1948c65a3a9b0b70f7abb7306ab215f28729203ed462e33426d9b640623b9674", func := "hypogeum/hypogeumlaw12.Gf2Squares", spec := "gf2Squares", apart := false, narrowed := true }
def Gf2SquaresUptoSaid : Prop := gf2SquaresUptoRow.holds Try.pinned (OpenSpec.upto gf2SquaresSpec)

/-- 'hypogeumlaw12.Gf2Common', WHERE WHAT IT READS IS OF BULK AT MOST 1048576: true; the input reads as it did. -/
def gf2CommonUptoRow : OpenClaim := { program := "ytgkkimonpfhbdaa", sum := "1948c65a3a9b0b70f7abb7306ab215f28729203ed462e33426d9b640623b9674", func := "hypogeum/hypogeumlaw12.Gf2Common", spec := "gf2Common", apart := false, narrowed := true }
def Gf2CommonUptoSaid : Prop := gf2CommonUptoRow.holds Try.pinned (OpenSpec.upto gf2CommonSpec)

/-- 'hypogeumlaw12.Gf2Prime', WHERE WHAT IT READS IS OF BULK AT MOST 1048576: true; the input reads as it did. -/
def gf2PrimeUptoRow : OpenClaim := { program := "ytgkkimonpfhbdaa", sum := "1948c65a3a9b0b70f7abb7306ab215f28729203ed462e33426d9b640623b9674", func := "hypogeum/hypogeumlaw12.Gf2Prime", spec := "gf2Prime", apart := false, narrowed := true }
def Gf2PrimeUptoSaid : Prop := gf2PrimeUptoRow.holds Try.pinned (OpenSpec.upto gf2PrimeSpec)

/-- 'hypogeumlaw12.Gf2Finds', WHERE WHAT IT READS IS OF BULK AT MOST 1048576: true; the input reads as it did. -/
def gf2FindsUptoRow : OpenClaim := { program := "ytgkkimonpfhbdaa", sum := "1948c65a3a9b0b70f7abb7306ab215f28729203ed462e33426d9b640623b9674", func := "hypogeum/hypogeumlaw12.Gf2Finds", spec := "gf2Finds", apart := false, narrowed := true }
def Gf2FindsUptoSaid : Prop := gf2FindsUptoRow.holds Try.pinned (OpenSpec.upto gf2FindsSpec)

/-- 'hypogeumlaw12.Gf2Found', WHERE WHAT IT READS IS OF BULK AT MOST 1048576: true; the input reads as it did. -/
def gf2FoundUptoRow : OpenClaim := { program := "ytgkkimonpfhbdaa", sum := "1948c65a3a9b0b70f7abb7306ab215f28729203ed462e33426d9b640623b9674", func := "hypogeum/hypogeumlaw12.Gf2Found", spec := "gf2Found", apart := false, narrowed := true }
def Gf2FoundUptoSaid : Prop := gf2FoundUptoRow.holds Try.pinned (OpenSpec.upto gf2FoundSpec)

/-- 'hypogeumlaw12.Gf2Order', WHERE WHAT IT READS IS OF BULK AT MOST 1048576: true; the input reads as it did. -/
def gf2OrderUptoRow : OpenClaim := { program := "ytgkkimonpfhbdaa", sum := "1948c65a3a9b0b70f7abb7306ab215f28729203ed462e33426d9b640623b9674", func := "hypogeum/hypogeumlaw12.Gf2Order", spec := "gf2Order", apart := false, narrowed := true }
def Gf2OrderUptoSaid : Prop := gf2OrderUptoRow.holds Try.pinned (OpenSpec.upto gf2OrderSpec)

/-- 'hypogeumlaw12.Gf2Factors', WHERE WHAT IT READS IS OF BULK AT MOST 1048576: true; the input reads as it did. -/
def gf2FactorsUptoRow : OpenClaim := { program := "ytgkkimonpfhbdaa", sum := "1948c65a3a9b0b70f7abb7306ab215f28729203ed462e33426d9b640623b9674", func := "hypogeum/hypogeumlaw12.Gf2Factors", spec := "gf2Factors", apart := false, narrowed := true }
def Gf2FactorsUptoSaid : Prop := gf2FactorsUptoRow.holds Try.pinned (OpenSpec.upto gf2FactorsSpec)

/-- 'hypogeumlaw12.Gf2Circle', WHERE WHAT IT READS IS OF BULK AT MOST 1048576: true; the input reads as it did. -/
def gf2CircleUptoRow : OpenClaim := { program := "ytgkkimonpfhbdaa", sum := "1948c65a3a9b0b70f7abb7306ab215f28729203ed462e33426d9b640623b9674", func := "hypogeum/hypogeumlaw12.Gf2Circle", spec := "gf2Circle", apart := false, narrowed := true }
def Gf2CircleUptoSaid : Prop := gf2CircleUptoRow.holds Try.pinned (OpenSpec.upto gf2CircleSpec)

end Rows
end Go.Proofs.Ytgkkimonpfhbdaa
