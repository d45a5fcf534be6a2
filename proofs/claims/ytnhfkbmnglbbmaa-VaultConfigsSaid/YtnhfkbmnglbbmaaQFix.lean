/- A lemma that our printed texts use. -/
import Derived.WalkKit
import Derived.Laws.BitsLemmas
namespace Go.Proofs.Ytnhfkbmnglbbmaa.Q
open Go.RowKit
theorem wrap64_m256 (x : Int) : wrap64 (x % 256) = x % 256 := by unfold wrap64; omega
theorem wrap64_u8w (x : Int) : wrap64 (IntKind.u8.wrap x) = x % 256 := by rw [IntKind.wrap_u8]; exact wrap64_m256 x
end Go.Proofs.Ytnhfkbmnglbbmaa.Q
