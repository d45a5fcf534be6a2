import Derived.Laws.Strings
import Derived.Laws.Small
namespace Go.Proofs.YtpdkgpmcmebefaaGreatDoor
open Go
theorem bytesLess_swap : ∀ a b : List UInt8, (!(Op.bytesLess a b || a == b)) = Op.bytesLess b a
 | [], [] => by simp [Op.bytesLess]
 | [], b :: bs => by simp [Op.bytesLess]
 | a :: as, [] => by simp [Op.bytesLess]
 | a :: as, b :: bs => by
  have ih := bytesLess_swap as bs
  simp only [Op.bytesLess]
  rcases Nat.lt_trichotomy a.toNat b.toNat with h | h | h
  ·have h1 : a < b := UInt8.lt_iff_toNat_lt.mpr h
   have h2 : ¬ b < a := fun q => by have := UInt8.lt_iff_toNat_lt.mp q; omega
   have h3 : ¬ b = a := fun q => by subst q; omega
   simp [h1, h2, h3]
  ·have h0 : a = b := UInt8.toNat_inj.mp h
   subst h0
   have h2 : ¬ a < a := fun q => by have := UInt8.lt_iff_toNat_lt.mp q; omega
   simp only [h2, decide_false, Bool.false_or, beq_self_eq_true, Bool.true_and]
   have hc : (a :: as == a :: bs) = (as == bs) := by simp
   rw [hc]; exact ih
  ·have h1 : b < a := UInt8.lt_iff_toNat_lt.mpr h
   have h2 : ¬ a < b := fun q => by have := UInt8.lt_iff_toNat_lt.mp q; omega
   have h3 : ¬ a = b := fun q => by subst q; omega
   simp [h1, h2, h3]
theorem binOp_gtr_swap (t : TypeId) (a b : ByteArray) : binOp .gtr t (.string a) (.string b) = pure (.bool (Op.bytesLess b.toList a.toList)) := by
 rw [← bytesLess_swap]; simp [binOp, Op.stringOp]
end Go.Proofs.YtpdkgpmcmebefaaGreatDoor
