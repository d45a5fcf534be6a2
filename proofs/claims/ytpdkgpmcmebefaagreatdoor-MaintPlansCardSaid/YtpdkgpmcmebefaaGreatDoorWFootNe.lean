/- Words of the official print, as far as they are used. -/
import Derived.Test.YtpdkgpmcmebefaaGreatDoorWN
namespace Go.Proofs.YtpdkgpmcmebefaaGreatDoorW.PrintWords
open Go.RowKit
namespace Kd
section
variable {α : Type} {d : Kd α} {W : World} {g n : Nat} {S ok : Nat → Prop} {A : Option Addr} {ad : Addr} {xs : List α}
end
end Kd
end Go.Proofs.YtpdkgpmcmebefaaGreatDoorW.PrintWords
