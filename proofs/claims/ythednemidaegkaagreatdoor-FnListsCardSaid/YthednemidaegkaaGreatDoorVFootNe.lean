-- Written by a program of this session, out of the words of the kit's print: those that are used.
import Derived.Test.YthednemidaegkaaGreatDoorVN
namespace Go.Proofs.YthednemidaegkaaGreatDoorW.PrintWords
open Go.RowKit
namespace Kd
section
variable {α : Type} {d : Kd α} {W : World} {g n : Nat} {S ok : Nat → Prop} {A : Option Addr} {ad : Addr} {xs : List α}
end
end Kd
end Go.Proofs.YthednemidaegkaaGreatDoorW.PrintWords
