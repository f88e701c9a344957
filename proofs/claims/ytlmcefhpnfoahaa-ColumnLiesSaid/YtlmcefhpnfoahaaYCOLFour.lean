/- Words of the printed texts, those that this chapter's laws use (laid by a program of this session out of what the kit's print wrote). Condition: none beside those that each theorem states. -/
import Derived.Test.YtlmcefhpnfoahaaYCOLTab
namespace Go.Proofs.YtlmcefhpnfoahaaW.PrintLast
section
variable {P : Program} {ops : Array Oper} {Q : Exit → Act → World → Prop} {md : Region.Mode} {S : World → Prop} {ds : List Nat} {T : Bool × List (List Nat × List Nat)}
end
end Go.Proofs.YtlmcefhpnfoahaaW.PrintLast
