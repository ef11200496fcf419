-- Written by a program of this session, out of the words of the kit's print: those that are used.
import Derived.Test.YthednemidaegkaaGreatDoorVWords
import Derived.Test.YthednemidaegkaaGreatDoorVLast
namespace Go.Proofs.YthednemidaegkaaGreatDoorW.PrintWords
open Go.RowKit
namespace Kd
section
variable {α : Type} {d : Kd α} {e base g o n cap : Nat} {ok okp : Nat → Prop} {w W : World} {v : Value} {xs : List α}
end
section
variable {α : Type} {enc : α → Value} {h1 : ∀ x, (enc x).oneCell' = true} {e base g o n cap : Nat} {ok : Nat → Prop} {W : World} {xs : List α}
end
end Kd
end Go.Proofs.YthednemidaegkaaGreatDoorW.PrintWords
