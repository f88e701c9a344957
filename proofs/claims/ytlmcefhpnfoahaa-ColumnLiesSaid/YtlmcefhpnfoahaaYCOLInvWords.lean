/- Words of the printed texts, those that this chapter's laws use (laid by a program of this session out of what the kit's print wrote). Condition: none beside those that each theorem states. -/
import Derived.Test.YtlmcefhpnfoahaaYCOLInv
import Derived.Test.YtlmcefhpnfoahaaYCOLFootNe
namespace Go.Proofs.YtlmcefhpnfoahaaW.PrintWords
open Go.RowKit
end Go.Proofs.YtlmcefhpnfoahaaW.PrintWords
namespace Go.Proofs.YtlmcefhpnfoahaaW.PrintLast
section
variable {ops : Array Oper} {a : Act} {o og : Oper} {g : Nat} {t : Tmp} {u : Bool}
end
end Go.Proofs.YtlmcefhpnfoahaaW.PrintLast
