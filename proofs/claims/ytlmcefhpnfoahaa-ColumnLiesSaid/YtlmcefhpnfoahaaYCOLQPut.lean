/- Words of the printed texts, those that this chapter's laws use (laid by a program of this session out of what the kit's print wrote). Condition: none beside those that each theorem states. -/
import Derived.Test.YtlmcefhpnfoahaaYCOLWords
import Derived.Test.YtlmcefhpnfoahaaYCOLLast
namespace Go.Proofs.YtlmcefhpnfoahaaW.PrintWords
open Go.RowKit
namespace Kd
section
variable {α : Type} {d : Kd α} {e base g o n cap : Nat} {ok okp : Nat → Prop} {w W : World} {v : Value} {xs : List α}
end
section
variable {α : Type} {enc : α → Value} {h1 : ∀ x, (enc x).oneCell' = true} {e base g o n cap : Nat} {ok : Nat → Prop} {W : World} {xs : List α}
end
end Kd
end Go.Proofs.YtlmcefhpnfoahaaW.PrintWords
