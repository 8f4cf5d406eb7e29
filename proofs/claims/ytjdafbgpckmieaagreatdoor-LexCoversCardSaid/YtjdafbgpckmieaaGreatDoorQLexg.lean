/-
  A look ahead of a builtin's step, for the printed walks that append.
-/
import Derived.Test.YtjdafbgpckmieaaGreatDoorQLexb
namespace Go.Proofs.YtjdafbgpckmieaaGreatDoor.QLex
/-- the next operation is a builtin over these operands -/
theorem gate_built {P : Program} {ops : Array Oper} {rest : List Oper} {o : Oper} {a : Act} {Q : Exit → Act → World → Prop} {W : World} {b : Builtin} {xs : Array Operand} {ts : Array TypeId} (_ : o.op = .call { callee := .builtin b, args := xs, argTypes := ts }) (h : wpList P ops Q (o :: rest) a W) : wpList P ops Q (o :: rest) a W := h
end Go.Proofs.YtjdafbgpckmieaaGreatDoor.QLex
