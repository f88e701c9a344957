/- Words of the printed texts, those that this chapter's laws use (laid by a program of this session out of what the kit's print wrote). Condition: none beside those that each theorem states. -/
import Derived.Test.YtlmcefhpnfoahaaYCOLTab
namespace Go.Proofs.YtlmcefhpnfoahaaW.PrintLast
/-- Number i is listed too. -/
def up (b : Nat → Bool) (i : Nat) : Nat → Bool := fun j => if j = i then true else b j
section
variable {P : Program} {ops : Array Oper} {Q : Exit → Act → World → Prop} {md : Region.Mode} {T : Bool × List (List Nat × List Nat)} {B : List Nat} {O : List Nat} {b : Nat → Bool} {i j n : Nat}
end
end Go.Proofs.YtlmcefhpnfoahaaW.PrintLast
