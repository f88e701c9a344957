/- Words of the printed texts, those that this chapter's laws use (laid by a program of this session out of what the kit's print wrote). Condition: none beside those that each theorem states. -/
import Derived.Test.YtlmcefhpnfoahaaYCOLN
namespace Go.Proofs.YtlmcefhpnfoahaaW.PrintWords
open Go.RowKit
namespace Kd
section
variable {α : Type} {d : Kd α} {W : World} {g n : Nat} {S ok : Nat → Prop} {A : Option Addr} {ad : Addr} {xs : List α}
end
end Kd
end Go.Proofs.YtlmcefhpnfoahaaW.PrintWords
