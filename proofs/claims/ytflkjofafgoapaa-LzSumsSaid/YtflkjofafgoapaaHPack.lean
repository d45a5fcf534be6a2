/- lz.Pack's contract: the plain packer's sequences, written out. -/
import Derived.Test.YtflkjofafgoapaaHPack4
namespace Go.Proofs.Ytflkjofafgoapaa.Q
open Go.RowKit

def packOf (s : ByteArray) : ByteArray := strOfNums (encS (packS s 0 0))

def lz_Pack.f (a0 : ByteArray) : Option (ByteArray × Int) := if 1048576 < a0.size then some (⟨#[]⟩, 2) else if a0.size ≤ 10000 then some (packOf a0, 0) else none

theorem lz_Pack.calls (a0 : ByteArray) (r0 : ByteArray) (r1 : Int) (w : World) (h : lz_Pack.f a0 = some (r0, r1)) :
    Calls Try.prog 15 #[.string a0] w fun e w' => e = .returned (.tuple #[.string r0, .int .i64 r1]) ∧ Below w.heap.size w w' := by
  unfold lz_Pack.f at h
  split at h
  · rename_i h1
    simp only [Option.some.injEq, Prod.mk.injEq] at h
    obtain ⟨rfl, rfl⟩ := h
    exact pack_high a0 w h1
  · split at h
    · rename_i h2
      simp only [Option.some.injEq, Prod.mk.injEq] at h
      obtain ⟨rfl, rfl⟩ := h
      exact pack_low a0 w h2
    · cases h

end Go.Proofs.Ytflkjofafgoapaa.Q
