/- Small words for the walks: a largest and a smallest of numbers; gates that name a call's kind. -/
import Derived.Test.YthpgbhpnlnpfnaaDoorWWords
import Derived.Test.YthpgbhpnlnpfnaaDoorWLast
namespace Go.Proofs.YthpgbhpnlnpfnaaDoorW.PrintMore
open Go.RowKit
theorem max2_int (k k' : IntKind) (x y : Int) : Builtin.max2 (.int k x) (.int k' y) = pure (.int k (if x < y then y else x)) := by
  unfold Builtin.max2
  simp only [gt_iff_lt]
theorem min2_int (k k' : IntKind) (x y : Int) : Builtin.min2 (.int k x) (.int k' y) = pure (.int k (if y < x then y else x)) := by
  unfold Builtin.min2
  simp only []
theorem max_two (ats : Array TypeId) (ty : TypeId) (p q : Value) : Builtin.max_ ats ty #[p, q] = (Builtin.max2 p q >>= fun s => pure s) := by
  simp only [Builtin.max_, List.foldlM_cons, List.foldlM_nil]
theorem min_two (ats : Array TypeId) (ty : TypeId) (p q : Value) : Builtin.min_ ats ty #[p, q] = (Builtin.min2 p q >>= fun s => pure s) := by
  simp only [Builtin.min_, List.foldlM_cons, List.foldlM_nil]
end Go.Proofs.YthpgbhpnlnpfnaaDoorW.PrintMore
namespace Go.Proofs.YthpgbhpnlnpfnaaDoorW.PrintWords
open Go.RowKit
section
variable {P : Program} {ops : Array Oper} {rest : List Oper} {o : Oper} {a : Act} {W : World} {Q : Exit → Act → World → Prop}
theorem gate_callee {f : FuncId} {as : Array Operand} {ts : Array TypeId} (_ho : o.op = .call { callee := .value (.func f), args := as, argTypes := ts }) (h : wpList P ops Q (o :: rest) a W) : wpList P ops Q (o :: rest) a W := h
theorem gate_builtin {b : Builtin} {xs : Array Operand} {ts : Array TypeId} (_ho : o.op = .call { callee := .builtin b, args := xs, argTypes := ts }) (h : wpList P ops Q (o :: rest) a W) : wpList P ops Q (o :: rest) a W := h
end
def mx (a b : Int) : Int := if a < b then b else a
def mn (a b : Int) : Int := if b < a then b else a
end Go.Proofs.YthpgbhpnlnpfnaaDoorW.PrintWords
