/- A slice that is made with a length and a capacity of its own, and a row of structs that is copied into one of the call's own rows. -/
import Derived.Laws.CopyRow
import Derived.Laws.IdiomCopy
import Derived.Scope
import Derived.Test.YtdbpablakhfdcaaWNEv
import Derived.Test.YtdbpablakhfdcaaWMore
import Derived.Test.YtdbpablakhfdcaaWRepsOne
import Derived.Test.YtdbpablakhfdcaaWLast
namespace Go.Proofs.YtdbpablakhfdcaaW.PrintWords
open Go.RowKit
set_option linter.unusedVariables false
namespace Kd
section
variable {α : Type}
end
section
variable {P : Program} {ops : Array Oper} {rest : List Oper} {o : Oper} {a : Act} {Q : Exit → Act → World → Prop} {α : Type}
end
section
variable {P : Program} {ops : Array Oper} {o : Oper} {a : Act} {Q : Exit → Act → World → Prop} {Kc : Act → World → Prop} {α : Type}
end
section
variable {P : Program} {ops : Array Oper} {rest : List Oper} {o : Oper} {a : Act} {Q : Exit → Act → World → Prop} {α : Type}
end
section
variable {P : Program} {ops : Array Oper} {rest : List Oper} {o : Oper} {a : Act} {Q : Exit → Act → World → Prop} {α : Type}
def baseOf : Value → Option Addr
  | .slice a _ _ => a
  | _ => none
@[go_sem, simp] theorem baseOf_slice (a : Option Addr) (n c : Nat) : baseOf (.slice a n c) = a := rfl
end
theorem emp_eq (l : List UInt8) : (l == []) = l.isEmpty := by cases l <;> rfl
theorem emp_ne (l : List UInt8) : (l != []) = !l.isEmpty := by cases l <;> rfl
end Kd
end Go.Proofs.YtdbpablakhfdcaaW.PrintWords
