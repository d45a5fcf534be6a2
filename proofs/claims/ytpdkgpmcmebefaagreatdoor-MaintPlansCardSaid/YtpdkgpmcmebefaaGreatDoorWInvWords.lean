/- Words of the official print, as far as they are used. -/
import Derived.Test.YtpdkgpmcmebefaaGreatDoorWInv
import Derived.Test.YtpdkgpmcmebefaaGreatDoorWFootNe
namespace Go.Proofs.YtpdkgpmcmebefaaGreatDoorW.PrintWords
open Go.RowKit
end Go.Proofs.YtpdkgpmcmebefaaGreatDoorW.PrintWords
namespace Go.Proofs.YtpdkgpmcmebefaaGreatDoorW.PrintLast
section
variable {ops : Array Oper} {a : Act} {o og : Oper} {g : Nat} {t : Tmp} {u : Bool}
end
end Go.Proofs.YtpdkgpmcmebefaaGreatDoorW.PrintLast
