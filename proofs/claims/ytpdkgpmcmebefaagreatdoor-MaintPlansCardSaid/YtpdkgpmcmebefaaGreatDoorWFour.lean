/- Words of the official print, as far as they are used. -/
import Derived.Test.YtpdkgpmcmebefaaGreatDoorWTab
namespace Go.Proofs.YtpdkgpmcmebefaaGreatDoorW.PrintLast
section
variable {P : Program} {ops : Array Oper} {Q : Exit → Act → World → Prop} {md : Region.Mode} {S : World → Prop} {ds : List Nat} {T : Bool × List (List Nat × List Nat)}
end
end Go.Proofs.YtpdkgpmcmebefaaGreatDoorW.PrintLast
