/- Words of the official print, as far as they are used. -/
import Derived.Test.YtpdkgpmcmebefaaGreatDoorWWords
import Derived.Laws.StructEq
namespace Go.Proofs.YtpdkgpmcmebefaaGreatDoorW.PrintWords
open Go.RowKit
section
variable {P : Program} {d : Nat} {xs ys : Array Value} {f : Field} {fs : List Field} {a b : Value} {r s : Bool} {w : World}
end
end Go.Proofs.YtpdkgpmcmebefaaGreatDoorW.PrintWords
