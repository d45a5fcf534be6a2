/- Of the proof about model: several texts, joined. -/
import Derived.WalkKit
import Derived.Laws.BitsLemmas
import Derived.Test.YtkicenkljjpcfaaGreatDoorProg
import Derived.Below
import Derived.Deep.Draws
import Derived.Deep.AppendLies
import Derived.Maps.AppendAt
import Derived.OwnWalk
import Derived.Laws.BytesArg
import Derived.Laws.MakeOwn
import Derived.Laws.OwnMore
import Derived.Deep.OwnRows
import Derived.Tactics
import Derived.Lib.ConvBytes
import Derived.Laws.Slices
import Derived.KernelRfl
import Derived.RowKit3
import Derived.Deep.LoopGhost
import Derived.Deep.QuietTactic
import Derived.BigQuiet
import Derived.WideLaws
import Derived.Deep.DeepCutAuto
import Derived.Deep.CutBlock
import Derived.Deep.RegionHeld3
import Derived.Laws.Rows
import Derived.Lib.AppendStr
import Derived.ArgAppend
import Derived.Laws.IdiomCopy
import Derived.OrdersHeld
import Derived.RowKit
import Derived.Test.YtkicenkljjpcfaaGreatDoorWWords
import Derived.Test.YtkicenkljjpcfaaGreatDoorWLast
import Derived.Test.YtkicenkljjpcfaaGreatDoorWTab
import Derived.Test.YtkicenkljjpcfaaGreatDoorWFour
import Derived.Test.YtkicenkljjpcfaaGreatDoorWQPut
import Derived.Test.YtkicenkljjpcfaaGreatDoorWApart
import Derived.Test.YtkicenkljjpcfaaGreatDoorWArr
import Derived.Test.YtkicenkljjpcfaaGreatDoorWZeros
import Derived.Test.YtkicenkljjpcfaaGreatDoorWFoot
import Derived.Test.YtkicenkljjpcfaaGreatDoorWKept
import Derived.Test.YtkicenkljjpcfaaGreatDoorWShare
import Derived.Test.YtkicenkljjpcfaaGreatDoorWN
import Derived.Test.YtkicenkljjpcfaaGreatDoorWFootNe
import Derived.Test.YtkicenkljjpcfaaGreatDoorWAt
import Derived.Test.YtkicenkljjpcfaaGreatDoorWEqStruct
import Derived.Test.YtkicenkljjpcfaaGreatDoorWRepsOne
import Derived.Test.YtkicenkljjpcfaaGreatDoorWInv
import Derived.Test.YtkicenkljjpcfaaGreatDoorWInvWords
import Derived.Test.YtkicenkljjpcfaaGreatDoorWGuard
import Derived.Test.YtkicenkljjpcfaaGreatDoorWNEv
import Derived.Test.YtkicenkljjpcfaaGreatDoorWMore
set_option linter.unusedVariables false
set_option linter.unusedSimpArgs false
namespace Go.Proofs.YtkicenkljjpcfaaGreatDoor.Q
open Go.RowKit
theorem wrap64_m256 (x : Int) : wrap64 (x % 256) = x % 256 := by unfold wrap64; omega
theorem wrap64_u8w (x : Int) : wrap64 (IntKind.u8.wrap x) = x % 256 := by rw [IntKind.wrap_u8]; exact wrap64_m256 x
end Go.Proofs.YtkicenkljjpcfaaGreatDoor.Q
-- Made by wip/qprint.sh (a patched copy of the kit's print program) out of the translation. Lean checks it.
namespace Go.Proofs.YtkicenkljjpcfaaGreatDoor.Q
open Go.RowKit Go.Proofs.YtkicenkljjpcfaaGreatDoorW.PrintWords Go.Proofs.YtkicenkljjpcfaaGreatDoorW.PrintLast Go.Proofs.YtkicenkljjpcfaaGreatDoorW.PrintMore
attribute [local go_sem] max2_int min2_int max_two min_two max_three min_three max_four min_four   -- for this text's walks alone
set_option linter.unusedVariables false
set_option linter.unusedSimpArgs false



def errW : Option Int → Value
  | none => .nilIface
  | some c => .iface 0 (.int .i64 c)
theorem errW_none : errW none = .nilIface := rfl
theorem errW_some (c : Int) : errW (some c) = .iface 0 (.int .i64 c) := rfl

theorem info9 : (Tryz.prog.info? 9).map (fun i => (i.zero, i.size, i.bytes)) = some (some (.string ⟨#[]⟩), 1, 16) := by kernel_rfl
theorem info57 : (Tryz.prog.info? 57).map (fun i => (i.zero, i.size, i.bytes)) = some (some (.agg #[(.int .i64 0), (.slice none 0 0), (.int .i64 0), (.string ⟨#[]⟩), (.string ⟨#[]⟩), (.slice none 0 0), (.string ⟨#[]⟩), (.slice none 0 0), (.int .i64 0), (.bool false), (.int .i64 0), (.string ⟨#[]⟩), (.int .i64 0), (.slice none 0 0), (.slice none 0 0), (.slice none 0 0), (.slice none 0 0), (.int .i64 0), (.int .i64 0), (.bool false)]), 20, 304) := by kernel_rfl
theorem info101 : (Tryz.prog.info? 101).map (fun i => (i.zero, i.size, i.bytes)) = some (some (.agg #[(.string ⟨#[]⟩), (.int .i64 0), (.int .i64 0), (.int .i64 0), (.int .i64 0), (.string ⟨#[]⟩)]), 6, 64) := by kernel_rfl
-- the values' own types
/-! #### struct type 101 -/
structure S101 where
  f0 : ByteArray
  f1 : Int
  f2 : Int
  f3 : Int
  f4 : Int
  f5 : ByteArray
def z101 : S101 := ⟨(⟨#[]⟩ : ByteArray), (0 : Int), (0 : Int), (0 : Int), (0 : Int), (⟨#[]⟩ : ByteArray)⟩
def k101 : Kd S101 := Kd.iso (Kd.pair Kd.string (Kd.pair (Kd.int .i64) (Kd.pair (Kd.int .i64) (Kd.pair (Kd.int .i64) (Kd.pair (Kd.int .i64) Kd.string))))) (fun x : S101 => (x.f0, x.f1, x.f2, x.f3, x.f4, x.f5))
theorem k101_heap : Kd.Heap k101 := Kd.heap_iso _ (Kd.heap_pair Kd.heap_string (Kd.heap_pair (Kd.heap_int .i64) (Kd.heap_pair (Kd.heap_int .i64) (Kd.heap_pair (Kd.heap_int .i64) (Kd.heap_pair (Kd.heap_int .i64) Kd.heap_string)))))
theorem k101_open {w : World} {x : S101} {cs : List Value} (h : k101.K w x cs) : cs = [.string x.f0, .int .i64 x.f1, .int .i64 x.f2, .int .i64 x.f3, .int .i64 x.f4, .string x.f5] := by
  obtain ⟨_, _, rfl, rfl, ⟨_, _, rfl, rfl, ⟨_, _, rfl, rfl, ⟨_, _, rfl, rfl, ⟨_, _, rfl, rfl, rfl⟩⟩⟩⟩⟩ := h
  exact rfl
theorem k101_openM {w : World} {base : Nat} {ok : Nat → Prop} {x : S101} {cs : List Value} (h : k101.M w base ok x cs) : cs = [.string x.f0, .int .i64 x.f1, .int .i64 x.f2, .int .i64 x.f3, .int .i64 x.f4, .string x.f5] := by
  obtain ⟨_, _, rfl, rfl, ⟨_, _, rfl, rfl, ⟨_, _, rfl, rfl, ⟨_, _, rfl, rfl, ⟨_, _, rfl, rfl, rfl⟩⟩⟩⟩⟩ := h
  exact rfl
theorem k101_mk (w : World) (x : S101)  : k101.K w x [.string x.f0, .int .i64 x.f1, .int .i64 x.f2, .int .i64 x.f3, .int .i64 x.f4, .string x.f5] := ⟨[.string x.f0], [.int .i64 x.f1, .int .i64 x.f2, .int .i64 x.f3, .int .i64 x.f4, .string x.f5], rfl, rfl, ⟨[.int .i64 x.f1], [.int .i64 x.f2, .int .i64 x.f3, .int .i64 x.f4, .string x.f5], rfl, rfl, ⟨[.int .i64 x.f2], [.int .i64 x.f3, .int .i64 x.f4, .string x.f5], rfl, rfl, ⟨[.int .i64 x.f3], [.int .i64 x.f4, .string x.f5], rfl, rfl, ⟨[.int .i64 x.f4], [.string x.f5], rfl, rfl, rfl⟩⟩⟩⟩⟩
theorem k101_mkM (w : World) (base : Nat) (ok : Nat → Prop) (x : S101)  : k101.M w base ok x [.string x.f0, .int .i64 x.f1, .int .i64 x.f2, .int .i64 x.f3, .int .i64 x.f4, .string x.f5] := ⟨[.string x.f0], [.int .i64 x.f1, .int .i64 x.f2, .int .i64 x.f3, .int .i64 x.f4, .string x.f5], rfl, rfl, ⟨[.int .i64 x.f1], [.int .i64 x.f2, .int .i64 x.f3, .int .i64 x.f4, .string x.f5], rfl, rfl, ⟨[.int .i64 x.f2], [.int .i64 x.f3, .int .i64 x.f4, .string x.f5], rfl, rfl, ⟨[.int .i64 x.f3], [.int .i64 x.f4, .string x.f5], rfl, rfl, ⟨[.int .i64 x.f4], [.string x.f5], rfl, rfl, rfl⟩⟩⟩⟩⟩
theorem k101_mkF (W : World) (ok : Nat → Prop) (x : S101) : Kd.FK k101 W ok x [.string x.f0, .int .i64 x.f1, .int .i64 x.f2, .int .i64 x.f3, .int .i64 x.f4, .string x.f5] := fun W2 _ => k101_mk W2 x
def rd_T101 (xs : List S101) (i : Int) : S101 := xs.getD i.toNat z101
theorem at_T101 {w : World} {A : Option Addr} {n : Nat} {xs : List S101} (h : Kd.C k101 w A n xs) (i : Int) (h0 : 0 ≤ i) (h1 : i < n) : ∃ ad , A = some ad ∧ w.cell? (ad.add (i.toNat * 6)) = some (.string (rd_T101 xs i).f0) ∧ w.cell? ⟨(ad.add (i.toNat * 6)).block, (ad.add (i.toNat * 6)).off + 1, none⟩ = some (.int .i64 (rd_T101 xs i).f1) ∧ w.cell? ⟨(ad.add (i.toNat * 6)).block, (ad.add (i.toNat * 6)).off + 2, none⟩ = some (.int .i64 (rd_T101 xs i).f2) ∧ w.cell? ⟨(ad.add (i.toNat * 6)).block, (ad.add (i.toNat * 6)).off + 3, none⟩ = some (.int .i64 (rd_T101 xs i).f3) ∧ w.cell? ⟨(ad.add (i.toNat * 6)).block, (ad.add (i.toNat * 6)).off + 4, none⟩ = some (.int .i64 (rd_T101 xs i).f4) ∧ w.cell? ⟨(ad.add (i.toNat * 6)).block, (ad.add (i.toNat * 6)).off + 5, none⟩ = some (.string (rd_T101 xs i).f5) := by
  obtain ⟨ad, c, e, _, hK, hc0⟩ := Kd.C_get h z101 i h0 h1
  have hc : ∀ j u, c[j]? = some u → w.cell? (ad.add (i.toNat * 6 + j)) = some u := hc0
  obtain rfl := k101_open hK
  exact ⟨ad, e, hc 0 _ rfl, by rw [← add_field _ _ 1 (by omega)]; exact hc 1 _ rfl, by rw [← add_field _ _ 2 (by omega)]; exact hc 2 _ rfl, by rw [← add_field _ _ 3 (by omega)]; exact hc 3 _ rfl, by rw [← add_field _ _ 4 (by omega)]; exact hc 4 _ rfl, by rw [← add_field _ _ 5 (by omega)]; exact hc 5 _ rfl⟩

def rd_L3 (xs : List (List ByteArray)) (i : Int) : (List ByteArray) := xs.getD i.toNat ([] : List ByteArray)
theorem at_L3 {w : World} {A : Option Addr} {n : Nat} {xs : List (List ByteArray)} (h : Kd.C (Kd.slice 9 Kd.string) w A n xs) (i : Int) (h0 : 0 ≤ i) (h1 : i < n) : ∃ ad A0 c0, A = some ad ∧ w.cell? (ad.add i.toNat) = some (.slice A0 (rd_L3 xs i).length c0) ∧ (rd_L3 xs i).length ≤ c0 ∧ Kd.string.C w A0 (rd_L3 xs i).length (rd_L3 xs i) := by
  obtain ⟨ad, c, e, _, hK, hc0⟩ := Kd.C_get h ([] : List ByteArray) i h0 h1
  have hc : ∀ j u, c[j]? = some u → w.cell? (ad.add (i.toNat * 1 + j)) = some u := hc0
  obtain ⟨A0, c0, rfl, l0, g0⟩ := hK
  exact ⟨ad, A0, c0, e, by have hq := hc 0 _ rfl; rwa [Nat.mul_one, Nat.add_zero] at hq, l0, g0⟩

/-! #### struct type 166 -/
structure S166 where
  f0 : Int
  f1 : ByteArray
  f2 : (List ByteArray)
  f3 : (List ByteArray)
  f4 : ByteArray
  f5 : ByteArray
def z166 : S166 := ⟨(0 : Int), (⟨#[]⟩ : ByteArray), ([] : List ByteArray), ([] : List ByteArray), (⟨#[]⟩ : ByteArray), (⟨#[]⟩ : ByteArray)⟩
def k166 : Kd S166 := Kd.iso (Kd.pair (Kd.int .i64) (Kd.pair Kd.string (Kd.pair (Kd.slice 9 Kd.string) (Kd.pair (Kd.slice 9 Kd.string) (Kd.pair Kd.string Kd.string))))) (fun x : S166 => (x.f0, x.f1, x.f2, x.f3, x.f4, x.f5))
theorem k166_heap : Kd.Heap k166 := Kd.heap_iso _ (Kd.heap_pair (Kd.heap_int .i64) (Kd.heap_pair Kd.heap_string (Kd.heap_pair (Kd.heap_slice 9 Kd.heap_string) (Kd.heap_pair (Kd.heap_slice 9 Kd.heap_string) (Kd.heap_pair Kd.heap_string Kd.heap_string)))))
theorem k166_open {w : World} {x : S166} {cs : List Value} (h : k166.K w x cs) : ∃ A2 c2 A3 c3, cs = [.int .i64 x.f0, .string x.f1, .slice A2 x.f2.length c2, .slice A3 x.f3.length c3, .string x.f4, .string x.f5] ∧ x.f2.length ≤ c2 ∧ Kd.string.C w A2 x.f2.length x.f2 ∧ x.f3.length ≤ c3 ∧ Kd.string.C w A3 x.f3.length x.f3 := by
  obtain ⟨_, _, rfl, rfl, ⟨_, _, rfl, rfl, ⟨_, _, rfl, ⟨A2, c2, rfl, l2, g2⟩, ⟨_, _, rfl, ⟨A3, c3, rfl, l3, g3⟩, ⟨_, _, rfl, rfl, rfl⟩⟩⟩⟩⟩ := h
  exact ⟨A2, c2, A3, c3, rfl, l2, g2, l3, g3⟩
theorem k166_openM {w : World} {base : Nat} {ok : Nat → Prop} {x : S166} {cs : List Value} (h : k166.M w base ok x cs) : ∃ v2 v3, cs = [.int .i64 x.f0, .string x.f1, v2, v3, .string x.f4, .string x.f5] ∧ Kd.string.R 9 w base ok v2 x.f2 ∧ Kd.string.R 9 w base ok v3 x.f3 := by
  obtain ⟨_, _, rfl, rfl, ⟨_, _, rfl, rfl, ⟨_, _, rfl, ⟨v2, rfl, g2⟩, ⟨_, _, rfl, ⟨v3, rfl, g3⟩, ⟨_, _, rfl, rfl, rfl⟩⟩⟩⟩⟩ := h
  exact ⟨v2, v3, rfl, g2, g3⟩
theorem k166_mk (w : World) (x : S166) {A2 : Option Addr} {c2 : Nat} (l2 : x.f2.length ≤ c2) (g2 : Kd.string.C w A2 x.f2.length x.f2) {A3 : Option Addr} {c3 : Nat} (l3 : x.f3.length ≤ c3) (g3 : Kd.string.C w A3 x.f3.length x.f3) : k166.K w x [.int .i64 x.f0, .string x.f1, .slice A2 x.f2.length c2, .slice A3 x.f3.length c3, .string x.f4, .string x.f5] := ⟨[.int .i64 x.f0], [.string x.f1, .slice A2 x.f2.length c2, .slice A3 x.f3.length c3, .string x.f4, .string x.f5], rfl, rfl, ⟨[.string x.f1], [.slice A2 x.f2.length c2, .slice A3 x.f3.length c3, .string x.f4, .string x.f5], rfl, rfl, ⟨[.slice A2 x.f2.length c2], [.slice A3 x.f3.length c3, .string x.f4, .string x.f5], rfl, ⟨A2, c2, rfl, l2, g2⟩, ⟨[.slice A3 x.f3.length c3], [.string x.f4, .string x.f5], rfl, ⟨A3, c3, rfl, l3, g3⟩, ⟨[.string x.f4], [.string x.f5], rfl, rfl, rfl⟩⟩⟩⟩⟩
theorem k166_mkM (w : World) (base : Nat) (ok : Nat → Prop) (x : S166) {v2 : Value} (g2 : Kd.string.R 9 w base ok v2 x.f2) {v3 : Value} (g3 : Kd.string.R 9 w base ok v3 x.f3) : k166.M w base ok x [.int .i64 x.f0, .string x.f1, v2, v3, .string x.f4, .string x.f5] := ⟨[.int .i64 x.f0], [.string x.f1, v2, v3, .string x.f4, .string x.f5], rfl, rfl, ⟨[.string x.f1], [v2, v3, .string x.f4, .string x.f5], rfl, rfl, ⟨[v2], [v3, .string x.f4, .string x.f5], rfl, ⟨v2, rfl, g2⟩, ⟨[v3], [.string x.f4, .string x.f5], rfl, ⟨v3, rfl, g3⟩, ⟨[.string x.f4], [.string x.f5], rfl, rfl, rfl⟩⟩⟩⟩⟩
theorem k166_openF {W : World} {ok : Nat → Prop} {x : S166} {cs : List Value} (h : Kd.FK k166 W ok x cs) : ∃ A2 c2 A3 c3, cs = [.int .i64 x.f0, .string x.f1, .slice A2 x.f2.length c2, .slice A3 x.f3.length c3, .string x.f4, .string x.f5] ∧ x.f2.length ≤ c2 ∧ Kd.F Kd.string W ok A2 x.f2.length x.f2 ∧ x.f3.length ≤ c3 ∧ Kd.F Kd.string W ok A3 x.f3.length x.f3 := by
  obtain ⟨A2, c2, A3, c3, rfl, l2, _, l3, _⟩ := k166_open (Kd.FK_now h)
  exact ⟨A2, c2, A3, c3, rfl, l2, (fun W' hW => by obtain ⟨A2_, c2_, A3_, c3_, he, l2_, g2_, l3_, g3_⟩ := k166_open (h W' hW); injection (Option.some.inj (show some (Value.slice A2 x.f2.length c2) = some (Value.slice A2_ x.f2.length c2_) from congrArg (fun l => l[2]?) he)) with ha_ _ _; rw [ha_]; exact g2_), l3, (fun W' hW => by obtain ⟨A2_, c2_, A3_, c3_, he, l2_, g2_, l3_, g3_⟩ := k166_open (h W' hW); injection (Option.some.inj (show some (Value.slice A3 x.f3.length c3) = some (Value.slice A3_ x.f3.length c3_) from congrArg (fun l => l[3]?) he)) with ha_ _ _; rw [ha_]; exact g3_)⟩
theorem k166_mkF (W : World) (ok : Nat → Prop) (x : S166) {A2 : Option Addr} {c2 : Nat} (l2 : x.f2.length ≤ c2) (g2 : Kd.F Kd.string W ok A2 x.f2.length x.f2) {A3 : Option Addr} {c3 : Nat} (l3 : x.f3.length ≤ c3) (g3 : Kd.F Kd.string W ok A3 x.f3.length x.f3) : Kd.FK k166 W ok x [.int .i64 x.f0, .string x.f1, .slice A2 x.f2.length c2, .slice A3 x.f3.length c3, .string x.f4, .string x.f5] := fun W2 hW => k166_mk W2 x l2 (g2 W2 hW) l3 (g3 W2 hW)
def rd_T166 (xs : List S166) (i : Int) : S166 := xs.getD i.toNat z166
theorem at_T166 {w : World} {A : Option Addr} {n : Nat} {xs : List S166} (h : Kd.C k166 w A n xs) (i : Int) (h0 : 0 ≤ i) (h1 : i < n) : ∃ ad A2 c2 A3 c3, A = some ad ∧ w.cell? (ad.add (i.toNat * 6)) = some (.int .i64 (rd_T166 xs i).f0) ∧ w.cell? ⟨(ad.add (i.toNat * 6)).block, (ad.add (i.toNat * 6)).off + 1, none⟩ = some (.string (rd_T166 xs i).f1) ∧ w.cell? ⟨(ad.add (i.toNat * 6)).block, (ad.add (i.toNat * 6)).off + 2, none⟩ = some (.slice A2 (rd_T166 xs i).f2.length c2) ∧ w.cell? ⟨(ad.add (i.toNat * 6)).block, (ad.add (i.toNat * 6)).off + 3, none⟩ = some (.slice A3 (rd_T166 xs i).f3.length c3) ∧ w.cell? ⟨(ad.add (i.toNat * 6)).block, (ad.add (i.toNat * 6)).off + 4, none⟩ = some (.string (rd_T166 xs i).f4) ∧ w.cell? ⟨(ad.add (i.toNat * 6)).block, (ad.add (i.toNat * 6)).off + 5, none⟩ = some (.string (rd_T166 xs i).f5) ∧ (rd_T166 xs i).f2.length ≤ c2 ∧ Kd.string.C w A2 (rd_T166 xs i).f2.length (rd_T166 xs i).f2 ∧ (rd_T166 xs i).f3.length ≤ c3 ∧ Kd.string.C w A3 (rd_T166 xs i).f3.length (rd_T166 xs i).f3 := by
  obtain ⟨ad, c, e, _, hK, hc0⟩ := Kd.C_get h z166 i h0 h1
  have hc : ∀ j u, c[j]? = some u → w.cell? (ad.add (i.toNat * 6 + j)) = some u := hc0
  obtain ⟨A2, c2, A3, c3, rfl, l2, g2, l3, g3⟩ := k166_open hK
  exact ⟨ad, A2, c2, A3, c3, e, hc 0 _ rfl, by rw [← add_field _ _ 1 (by omega)]; exact hc 1 _ rfl, by rw [← add_field _ _ 2 (by omega)]; exact hc 2 _ rfl, by rw [← add_field _ _ 3 (by omega)]; exact hc 3 _ rfl, by rw [← add_field _ _ 4 (by omega)]; exact hc 4 _ rfl, by rw [← add_field _ _ 5 (by omega)]; exact hc 5 _ rfl, l2, g2, l3, g3⟩

def rd_L6 (xs : List (List S101)) (i : Int) : (List S101) := xs.getD i.toNat ([] : List S101)
theorem at_L6 {w : World} {A : Option Addr} {n : Nat} {xs : List (List S101)} (h : Kd.C (Kd.slice 101 k101) w A n xs) (i : Int) (h0 : 0 ≤ i) (h1 : i < n) : ∃ ad A0 c0, A = some ad ∧ w.cell? (ad.add i.toNat) = some (.slice A0 (rd_L6 xs i).length c0) ∧ (rd_L6 xs i).length ≤ c0 ∧ k101.C w A0 (rd_L6 xs i).length (rd_L6 xs i) := by
  obtain ⟨ad, c, e, _, hK, hc0⟩ := Kd.C_get h ([] : List S101) i h0 h1
  have hc : ∀ j u, c[j]? = some u → w.cell? (ad.add (i.toNat * 1 + j)) = some u := hc0
  obtain ⟨A0, c0, rfl, l0, g0⟩ := hK
  exact ⟨ad, A0, c0, e, by have hq := hc 0 _ rfl; rwa [Nat.mul_one, Nat.add_zero] at hq, l0, g0⟩

def rd_L7 (xs : List (List Int)) (i : Int) : (List Int) := xs.getD i.toNat ([] : List Int)
theorem at_L7 {w : World} {A : Option Addr} {n : Nat} {xs : List (List Int)} (h : Kd.C (Kd.slice 3 (Kd.int .i64)) w A n xs) (i : Int) (h0 : 0 ≤ i) (h1 : i < n) : ∃ ad A0 c0, A = some ad ∧ w.cell? (ad.add i.toNat) = some (.slice A0 (rd_L7 xs i).length c0) ∧ (rd_L7 xs i).length ≤ c0 ∧ (Kd.int .i64).C w A0 (rd_L7 xs i).length (rd_L7 xs i) := by
  obtain ⟨ad, c, e, _, hK, hc0⟩ := Kd.C_get h ([] : List Int) i h0 h1
  have hc : ∀ j u, c[j]? = some u → w.cell? (ad.add (i.toNat * 1 + j)) = some u := hc0
  obtain ⟨A0, c0, rfl, l0, g0⟩ := hK
  exact ⟨ad, A0, c0, e, by have hq := hc 0 _ rfl; rwa [Nat.mul_one, Nat.add_zero] at hq, l0, g0⟩

/-! #### struct type 28 -/
structure S28 where
  f0 : Int
  f1 : (List S101)
  f2 : Int
  f3 : ByteArray
  f4 : ByteArray
  f5 : (List ByteArray)
  f6 : ByteArray
  f7 : (List Int)
  f8 : Int
  f9 : Bool
def z28 : S28 := ⟨(0 : Int), ([] : List S101), (0 : Int), (⟨#[]⟩ : ByteArray), (⟨#[]⟩ : ByteArray), ([] : List ByteArray), (⟨#[]⟩ : ByteArray), ([] : List Int), (0 : Int), false⟩
def k28 : Kd S28 := Kd.iso (Kd.pair (Kd.int .i64) (Kd.pair (Kd.slice 101 k101) (Kd.pair (Kd.int .i64) (Kd.pair Kd.string (Kd.pair Kd.string (Kd.pair (Kd.slice 9 Kd.string) (Kd.pair Kd.string (Kd.pair (Kd.slice 3 (Kd.int .i64)) (Kd.pair (Kd.int .i64) Kd.bool))))))))) (fun x : S28 => (x.f0, x.f1, x.f2, x.f3, x.f4, x.f5, x.f6, x.f7, x.f8, x.f9))
theorem k28_heap : Kd.Heap k28 := Kd.heap_iso _ (Kd.heap_pair (Kd.heap_int .i64) (Kd.heap_pair (Kd.heap_slice 101 k101_heap) (Kd.heap_pair (Kd.heap_int .i64) (Kd.heap_pair Kd.heap_string (Kd.heap_pair Kd.heap_string (Kd.heap_pair (Kd.heap_slice 9 Kd.heap_string) (Kd.heap_pair Kd.heap_string (Kd.heap_pair (Kd.heap_slice 3 (Kd.heap_int .i64)) (Kd.heap_pair (Kd.heap_int .i64) Kd.heap_bool)))))))))
theorem k28_open {w : World} {x : S28} {cs : List Value} (h : k28.K w x cs) : ∃ A1 c1 A5 c5 A7 c7, cs = [.int .i64 x.f0, .slice A1 x.f1.length c1, .int .i64 x.f2, .string x.f3, .string x.f4, .slice A5 x.f5.length c5, .string x.f6, .slice A7 x.f7.length c7, .int .i64 x.f8, .bool x.f9] ∧ x.f1.length ≤ c1 ∧ k101.C w A1 x.f1.length x.f1 ∧ x.f5.length ≤ c5 ∧ Kd.string.C w A5 x.f5.length x.f5 ∧ x.f7.length ≤ c7 ∧ (Kd.int .i64).C w A7 x.f7.length x.f7 := by
  obtain ⟨_, _, rfl, rfl, ⟨_, _, rfl, ⟨A1, c1, rfl, l1, g1⟩, ⟨_, _, rfl, rfl, ⟨_, _, rfl, rfl, ⟨_, _, rfl, rfl, ⟨_, _, rfl, ⟨A5, c5, rfl, l5, g5⟩, ⟨_, _, rfl, rfl, ⟨_, _, rfl, ⟨A7, c7, rfl, l7, g7⟩, ⟨_, _, rfl, rfl, rfl⟩⟩⟩⟩⟩⟩⟩⟩⟩ := h
  exact ⟨A1, c1, A5, c5, A7, c7, rfl, l1, g1, l5, g5, l7, g7⟩
theorem k28_openM {w : World} {base : Nat} {ok : Nat → Prop} {x : S28} {cs : List Value} (h : k28.M w base ok x cs) : ∃ v1 v5 v7, cs = [.int .i64 x.f0, v1, .int .i64 x.f2, .string x.f3, .string x.f4, v5, .string x.f6, v7, .int .i64 x.f8, .bool x.f9] ∧ k101.R 101 w base ok v1 x.f1 ∧ Kd.string.R 9 w base ok v5 x.f5 ∧ (Kd.int .i64).R 3 w base ok v7 x.f7 := by
  obtain ⟨_, _, rfl, rfl, ⟨_, _, rfl, ⟨v1, rfl, g1⟩, ⟨_, _, rfl, rfl, ⟨_, _, rfl, rfl, ⟨_, _, rfl, rfl, ⟨_, _, rfl, ⟨v5, rfl, g5⟩, ⟨_, _, rfl, rfl, ⟨_, _, rfl, ⟨v7, rfl, g7⟩, ⟨_, _, rfl, rfl, rfl⟩⟩⟩⟩⟩⟩⟩⟩⟩ := h
  exact ⟨v1, v5, v7, rfl, g1, g5, g7⟩
theorem k28_mk (w : World) (x : S28) {A1 : Option Addr} {c1 : Nat} (l1 : x.f1.length ≤ c1) (g1 : k101.C w A1 x.f1.length x.f1) {A5 : Option Addr} {c5 : Nat} (l5 : x.f5.length ≤ c5) (g5 : Kd.string.C w A5 x.f5.length x.f5) {A7 : Option Addr} {c7 : Nat} (l7 : x.f7.length ≤ c7) (g7 : (Kd.int .i64).C w A7 x.f7.length x.f7) : k28.K w x [.int .i64 x.f0, .slice A1 x.f1.length c1, .int .i64 x.f2, .string x.f3, .string x.f4, .slice A5 x.f5.length c5, .string x.f6, .slice A7 x.f7.length c7, .int .i64 x.f8, .bool x.f9] := ⟨[.int .i64 x.f0], [.slice A1 x.f1.length c1, .int .i64 x.f2, .string x.f3, .string x.f4, .slice A5 x.f5.length c5, .string x.f6, .slice A7 x.f7.length c7, .int .i64 x.f8, .bool x.f9], rfl, rfl, ⟨[.slice A1 x.f1.length c1], [.int .i64 x.f2, .string x.f3, .string x.f4, .slice A5 x.f5.length c5, .string x.f6, .slice A7 x.f7.length c7, .int .i64 x.f8, .bool x.f9], rfl, ⟨A1, c1, rfl, l1, g1⟩, ⟨[.int .i64 x.f2], [.string x.f3, .string x.f4, .slice A5 x.f5.length c5, .string x.f6, .slice A7 x.f7.length c7, .int .i64 x.f8, .bool x.f9], rfl, rfl, ⟨[.string x.f3], [.string x.f4, .slice A5 x.f5.length c5, .string x.f6, .slice A7 x.f7.length c7, .int .i64 x.f8, .bool x.f9], rfl, rfl, ⟨[.string x.f4], [.slice A5 x.f5.length c5, .string x.f6, .slice A7 x.f7.length c7, .int .i64 x.f8, .bool x.f9], rfl, rfl, ⟨[.slice A5 x.f5.length c5], [.string x.f6, .slice A7 x.f7.length c7, .int .i64 x.f8, .bool x.f9], rfl, ⟨A5, c5, rfl, l5, g5⟩, ⟨[.string x.f6], [.slice A7 x.f7.length c7, .int .i64 x.f8, .bool x.f9], rfl, rfl, ⟨[.slice A7 x.f7.length c7], [.int .i64 x.f8, .bool x.f9], rfl, ⟨A7, c7, rfl, l7, g7⟩, ⟨[.int .i64 x.f8], [.bool x.f9], rfl, rfl, rfl⟩⟩⟩⟩⟩⟩⟩⟩⟩
theorem k28_mkM (w : World) (base : Nat) (ok : Nat → Prop) (x : S28) {v1 : Value} (g1 : k101.R 101 w base ok v1 x.f1) {v5 : Value} (g5 : Kd.string.R 9 w base ok v5 x.f5) {v7 : Value} (g7 : (Kd.int .i64).R 3 w base ok v7 x.f7) : k28.M w base ok x [.int .i64 x.f0, v1, .int .i64 x.f2, .string x.f3, .string x.f4, v5, .string x.f6, v7, .int .i64 x.f8, .bool x.f9] := ⟨[.int .i64 x.f0], [v1, .int .i64 x.f2, .string x.f3, .string x.f4, v5, .string x.f6, v7, .int .i64 x.f8, .bool x.f9], rfl, rfl, ⟨[v1], [.int .i64 x.f2, .string x.f3, .string x.f4, v5, .string x.f6, v7, .int .i64 x.f8, .bool x.f9], rfl, ⟨v1, rfl, g1⟩, ⟨[.int .i64 x.f2], [.string x.f3, .string x.f4, v5, .string x.f6, v7, .int .i64 x.f8, .bool x.f9], rfl, rfl, ⟨[.string x.f3], [.string x.f4, v5, .string x.f6, v7, .int .i64 x.f8, .bool x.f9], rfl, rfl, ⟨[.string x.f4], [v5, .string x.f6, v7, .int .i64 x.f8, .bool x.f9], rfl, rfl, ⟨[v5], [.string x.f6, v7, .int .i64 x.f8, .bool x.f9], rfl, ⟨v5, rfl, g5⟩, ⟨[.string x.f6], [v7, .int .i64 x.f8, .bool x.f9], rfl, rfl, ⟨[v7], [.int .i64 x.f8, .bool x.f9], rfl, ⟨v7, rfl, g7⟩, ⟨[.int .i64 x.f8], [.bool x.f9], rfl, rfl, rfl⟩⟩⟩⟩⟩⟩⟩⟩⟩
theorem k28_openF {W : World} {ok : Nat → Prop} {x : S28} {cs : List Value} (h : Kd.FK k28 W ok x cs) : ∃ A1 c1 A5 c5 A7 c7, cs = [.int .i64 x.f0, .slice A1 x.f1.length c1, .int .i64 x.f2, .string x.f3, .string x.f4, .slice A5 x.f5.length c5, .string x.f6, .slice A7 x.f7.length c7, .int .i64 x.f8, .bool x.f9] ∧ x.f1.length ≤ c1 ∧ Kd.F k101 W ok A1 x.f1.length x.f1 ∧ x.f5.length ≤ c5 ∧ Kd.F Kd.string W ok A5 x.f5.length x.f5 ∧ x.f7.length ≤ c7 ∧ Kd.F (Kd.int .i64) W ok A7 x.f7.length x.f7 := by
  obtain ⟨A1, c1, A5, c5, A7, c7, rfl, l1, _, l5, _, l7, _⟩ := k28_open (Kd.FK_now h)
  exact ⟨A1, c1, A5, c5, A7, c7, rfl, l1, (fun W' hW => by obtain ⟨A1_, c1_, A5_, c5_, A7_, c7_, he, l1_, g1_, l5_, g5_, l7_, g7_⟩ := k28_open (h W' hW); injection (Option.some.inj (show some (Value.slice A1 x.f1.length c1) = some (Value.slice A1_ x.f1.length c1_) from congrArg (fun l => l[1]?) he)) with ha_ _ _; rw [ha_]; exact g1_), l5, (fun W' hW => by obtain ⟨A1_, c1_, A5_, c5_, A7_, c7_, he, l1_, g1_, l5_, g5_, l7_, g7_⟩ := k28_open (h W' hW); injection (Option.some.inj (show some (Value.slice A5 x.f5.length c5) = some (Value.slice A5_ x.f5.length c5_) from congrArg (fun l => l[5]?) he)) with ha_ _ _; rw [ha_]; exact g5_), l7, (fun W' hW => by obtain ⟨A1_, c1_, A5_, c5_, A7_, c7_, he, l1_, g1_, l5_, g5_, l7_, g7_⟩ := k28_open (h W' hW); injection (Option.some.inj (show some (Value.slice A7 x.f7.length c7) = some (Value.slice A7_ x.f7.length c7_) from congrArg (fun l => l[7]?) he)) with ha_ _ _; rw [ha_]; exact g7_)⟩
theorem k28_mkF (W : World) (ok : Nat → Prop) (x : S28) {A1 : Option Addr} {c1 : Nat} (l1 : x.f1.length ≤ c1) (g1 : Kd.F k101 W ok A1 x.f1.length x.f1) {A5 : Option Addr} {c5 : Nat} (l5 : x.f5.length ≤ c5) (g5 : Kd.F Kd.string W ok A5 x.f5.length x.f5) {A7 : Option Addr} {c7 : Nat} (l7 : x.f7.length ≤ c7) (g7 : Kd.F (Kd.int .i64) W ok A7 x.f7.length x.f7) : Kd.FK k28 W ok x [.int .i64 x.f0, .slice A1 x.f1.length c1, .int .i64 x.f2, .string x.f3, .string x.f4, .slice A5 x.f5.length c5, .string x.f6, .slice A7 x.f7.length c7, .int .i64 x.f8, .bool x.f9] := fun W2 hW => k28_mk W2 x l1 (g1 W2 hW) l5 (g5 W2 hW) l7 (g7 W2 hW)
def rd_T28 (xs : List S28) (i : Int) : S28 := xs.getD i.toNat z28
theorem at_T28 {w : World} {A : Option Addr} {n : Nat} {xs : List S28} (h : Kd.C k28 w A n xs) (i : Int) (h0 : 0 ≤ i) (h1 : i < n) : ∃ ad A1 c1 A5 c5 A7 c7, A = some ad ∧ w.cell? (ad.add (i.toNat * 10)) = some (.int .i64 (rd_T28 xs i).f0) ∧ w.cell? ⟨(ad.add (i.toNat * 10)).block, (ad.add (i.toNat * 10)).off + 1, none⟩ = some (.slice A1 (rd_T28 xs i).f1.length c1) ∧ w.cell? ⟨(ad.add (i.toNat * 10)).block, (ad.add (i.toNat * 10)).off + 2, none⟩ = some (.int .i64 (rd_T28 xs i).f2) ∧ w.cell? ⟨(ad.add (i.toNat * 10)).block, (ad.add (i.toNat * 10)).off + 3, none⟩ = some (.string (rd_T28 xs i).f3) ∧ w.cell? ⟨(ad.add (i.toNat * 10)).block, (ad.add (i.toNat * 10)).off + 4, none⟩ = some (.string (rd_T28 xs i).f4) ∧ w.cell? ⟨(ad.add (i.toNat * 10)).block, (ad.add (i.toNat * 10)).off + 5, none⟩ = some (.slice A5 (rd_T28 xs i).f5.length c5) ∧ w.cell? ⟨(ad.add (i.toNat * 10)).block, (ad.add (i.toNat * 10)).off + 6, none⟩ = some (.string (rd_T28 xs i).f6) ∧ w.cell? ⟨(ad.add (i.toNat * 10)).block, (ad.add (i.toNat * 10)).off + 7, none⟩ = some (.slice A7 (rd_T28 xs i).f7.length c7) ∧ w.cell? ⟨(ad.add (i.toNat * 10)).block, (ad.add (i.toNat * 10)).off + 8, none⟩ = some (.int .i64 (rd_T28 xs i).f8) ∧ w.cell? ⟨(ad.add (i.toNat * 10)).block, (ad.add (i.toNat * 10)).off + 9, none⟩ = some (.bool (rd_T28 xs i).f9) ∧ (rd_T28 xs i).f1.length ≤ c1 ∧ k101.C w A1 (rd_T28 xs i).f1.length (rd_T28 xs i).f1 ∧ (rd_T28 xs i).f5.length ≤ c5 ∧ Kd.string.C w A5 (rd_T28 xs i).f5.length (rd_T28 xs i).f5 ∧ (rd_T28 xs i).f7.length ≤ c7 ∧ (Kd.int .i64).C w A7 (rd_T28 xs i).f7.length (rd_T28 xs i).f7 := by
  obtain ⟨ad, c, e, _, hK, hc0⟩ := Kd.C_get h z28 i h0 h1
  have hc : ∀ j u, c[j]? = some u → w.cell? (ad.add (i.toNat * 10 + j)) = some u := hc0
  obtain ⟨A1, c1, A5, c5, A7, c7, rfl, l1, g1, l5, g5, l7, g7⟩ := k28_open hK
  exact ⟨ad, A1, c1, A5, c5, A7, c7, e, hc 0 _ rfl, by rw [← add_field _ _ 1 (by omega)]; exact hc 1 _ rfl, by rw [← add_field _ _ 2 (by omega)]; exact hc 2 _ rfl, by rw [← add_field _ _ 3 (by omega)]; exact hc 3 _ rfl, by rw [← add_field _ _ 4 (by omega)]; exact hc 4 _ rfl, by rw [← add_field _ _ 5 (by omega)]; exact hc 5 _ rfl, by rw [← add_field _ _ 6 (by omega)]; exact hc 6 _ rfl, by rw [← add_field _ _ 7 (by omega)]; exact hc 7 _ rfl, by rw [← add_field _ _ 8 (by omega)]; exact hc 8 _ rfl, by rw [← add_field _ _ 9 (by omega)]; exact hc 9 _ rfl, l1, g1, l5, g5, l7, g7⟩

def rd_L9 (xs : List (List S166)) (i : Int) : (List S166) := xs.getD i.toNat ([] : List S166)
theorem at_L9 {w : World} {A : Option Addr} {n : Nat} {xs : List (List S166)} (h : Kd.C (Kd.slice 166 k166) w A n xs) (i : Int) (h0 : 0 ≤ i) (h1 : i < n) : ∃ ad A0 c0, A = some ad ∧ w.cell? (ad.add i.toNat) = some (.slice A0 (rd_L9 xs i).length c0) ∧ (rd_L9 xs i).length ≤ c0 ∧ k166.C w A0 (rd_L9 xs i).length (rd_L9 xs i) := by
  obtain ⟨ad, c, e, _, hK, hc0⟩ := Kd.C_get h ([] : List S166) i h0 h1
  have hc : ∀ j u, c[j]? = some u → w.cell? (ad.add (i.toNat * 1 + j)) = some u := hc0
  obtain ⟨A0, c0, rfl, l0, g0⟩ := hK
  exact ⟨ad, A0, c0, e, by have hq := hc 0 _ rfl; rwa [Nat.mul_one, Nat.add_zero] at hq, l0, g0⟩

/-! #### struct type 32 -/
structure S32 where
  f0 : Int
  f1 : ByteArray
  f2 : Int
  f3 : (List ByteArray)
  f4 : (List ByteArray)
  f5 : (List S101)
  f6 : (List S166)
def z32 : S32 := ⟨(0 : Int), (⟨#[]⟩ : ByteArray), (0 : Int), ([] : List ByteArray), ([] : List ByteArray), ([] : List S101), ([] : List S166)⟩
def k32 : Kd S32 := Kd.iso (Kd.pair (Kd.int .i64) (Kd.pair Kd.string (Kd.pair (Kd.int .i64) (Kd.pair (Kd.slice 9 Kd.string) (Kd.pair (Kd.slice 9 Kd.string) (Kd.pair (Kd.slice 101 k101) (Kd.slice 166 k166))))))) (fun x : S32 => (x.f0, x.f1, x.f2, x.f3, x.f4, x.f5, x.f6))
theorem k32_heap : Kd.Heap k32 := Kd.heap_iso _ (Kd.heap_pair (Kd.heap_int .i64) (Kd.heap_pair Kd.heap_string (Kd.heap_pair (Kd.heap_int .i64) (Kd.heap_pair (Kd.heap_slice 9 Kd.heap_string) (Kd.heap_pair (Kd.heap_slice 9 Kd.heap_string) (Kd.heap_pair (Kd.heap_slice 101 k101_heap) (Kd.heap_slice 166 k166_heap)))))))
theorem k32_open {w : World} {x : S32} {cs : List Value} (h : k32.K w x cs) : ∃ A3 c3 A4 c4 A5 c5 A6 c6, cs = [.int .i64 x.f0, .string x.f1, .int .i64 x.f2, .slice A3 x.f3.length c3, .slice A4 x.f4.length c4, .slice A5 x.f5.length c5, .slice A6 x.f6.length c6] ∧ x.f3.length ≤ c3 ∧ Kd.string.C w A3 x.f3.length x.f3 ∧ x.f4.length ≤ c4 ∧ Kd.string.C w A4 x.f4.length x.f4 ∧ x.f5.length ≤ c5 ∧ k101.C w A5 x.f5.length x.f5 ∧ x.f6.length ≤ c6 ∧ k166.C w A6 x.f6.length x.f6 := by
  obtain ⟨_, _, rfl, rfl, ⟨_, _, rfl, rfl, ⟨_, _, rfl, rfl, ⟨_, _, rfl, ⟨A3, c3, rfl, l3, g3⟩, ⟨_, _, rfl, ⟨A4, c4, rfl, l4, g4⟩, ⟨_, _, rfl, ⟨A5, c5, rfl, l5, g5⟩, ⟨A6, c6, rfl, l6, g6⟩⟩⟩⟩⟩⟩⟩ := h
  exact ⟨A3, c3, A4, c4, A5, c5, A6, c6, rfl, l3, g3, l4, g4, l5, g5, l6, g6⟩
theorem k32_openM {w : World} {base : Nat} {ok : Nat → Prop} {x : S32} {cs : List Value} (h : k32.M w base ok x cs) : ∃ v3 v4 v5 v6, cs = [.int .i64 x.f0, .string x.f1, .int .i64 x.f2, v3, v4, v5, v6] ∧ Kd.string.R 9 w base ok v3 x.f3 ∧ Kd.string.R 9 w base ok v4 x.f4 ∧ k101.R 101 w base ok v5 x.f5 ∧ k166.R 166 w base ok v6 x.f6 := by
  obtain ⟨_, _, rfl, rfl, ⟨_, _, rfl, rfl, ⟨_, _, rfl, rfl, ⟨_, _, rfl, ⟨v3, rfl, g3⟩, ⟨_, _, rfl, ⟨v4, rfl, g4⟩, ⟨_, _, rfl, ⟨v5, rfl, g5⟩, ⟨v6, rfl, g6⟩⟩⟩⟩⟩⟩⟩ := h
  exact ⟨v3, v4, v5, v6, rfl, g3, g4, g5, g6⟩
theorem k32_mk (w : World) (x : S32) {A3 : Option Addr} {c3 : Nat} (l3 : x.f3.length ≤ c3) (g3 : Kd.string.C w A3 x.f3.length x.f3) {A4 : Option Addr} {c4 : Nat} (l4 : x.f4.length ≤ c4) (g4 : Kd.string.C w A4 x.f4.length x.f4) {A5 : Option Addr} {c5 : Nat} (l5 : x.f5.length ≤ c5) (g5 : k101.C w A5 x.f5.length x.f5) {A6 : Option Addr} {c6 : Nat} (l6 : x.f6.length ≤ c6) (g6 : k166.C w A6 x.f6.length x.f6) : k32.K w x [.int .i64 x.f0, .string x.f1, .int .i64 x.f2, .slice A3 x.f3.length c3, .slice A4 x.f4.length c4, .slice A5 x.f5.length c5, .slice A6 x.f6.length c6] := ⟨[.int .i64 x.f0], [.string x.f1, .int .i64 x.f2, .slice A3 x.f3.length c3, .slice A4 x.f4.length c4, .slice A5 x.f5.length c5, .slice A6 x.f6.length c6], rfl, rfl, ⟨[.string x.f1], [.int .i64 x.f2, .slice A3 x.f3.length c3, .slice A4 x.f4.length c4, .slice A5 x.f5.length c5, .slice A6 x.f6.length c6], rfl, rfl, ⟨[.int .i64 x.f2], [.slice A3 x.f3.length c3, .slice A4 x.f4.length c4, .slice A5 x.f5.length c5, .slice A6 x.f6.length c6], rfl, rfl, ⟨[.slice A3 x.f3.length c3], [.slice A4 x.f4.length c4, .slice A5 x.f5.length c5, .slice A6 x.f6.length c6], rfl, ⟨A3, c3, rfl, l3, g3⟩, ⟨[.slice A4 x.f4.length c4], [.slice A5 x.f5.length c5, .slice A6 x.f6.length c6], rfl, ⟨A4, c4, rfl, l4, g4⟩, ⟨[.slice A5 x.f5.length c5], [.slice A6 x.f6.length c6], rfl, ⟨A5, c5, rfl, l5, g5⟩, ⟨A6, c6, rfl, l6, g6⟩⟩⟩⟩⟩⟩⟩
theorem k32_mkM (w : World) (base : Nat) (ok : Nat → Prop) (x : S32) {v3 : Value} (g3 : Kd.string.R 9 w base ok v3 x.f3) {v4 : Value} (g4 : Kd.string.R 9 w base ok v4 x.f4) {v5 : Value} (g5 : k101.R 101 w base ok v5 x.f5) {v6 : Value} (g6 : k166.R 166 w base ok v6 x.f6) : k32.M w base ok x [.int .i64 x.f0, .string x.f1, .int .i64 x.f2, v3, v4, v5, v6] := ⟨[.int .i64 x.f0], [.string x.f1, .int .i64 x.f2, v3, v4, v5, v6], rfl, rfl, ⟨[.string x.f1], [.int .i64 x.f2, v3, v4, v5, v6], rfl, rfl, ⟨[.int .i64 x.f2], [v3, v4, v5, v6], rfl, rfl, ⟨[v3], [v4, v5, v6], rfl, ⟨v3, rfl, g3⟩, ⟨[v4], [v5, v6], rfl, ⟨v4, rfl, g4⟩, ⟨[v5], [v6], rfl, ⟨v5, rfl, g5⟩, ⟨v6, rfl, g6⟩⟩⟩⟩⟩⟩⟩
theorem k32_openF {W : World} {ok : Nat → Prop} {x : S32} {cs : List Value} (h : Kd.FK k32 W ok x cs) : ∃ A3 c3 A4 c4 A5 c5 A6 c6, cs = [.int .i64 x.f0, .string x.f1, .int .i64 x.f2, .slice A3 x.f3.length c3, .slice A4 x.f4.length c4, .slice A5 x.f5.length c5, .slice A6 x.f6.length c6] ∧ x.f3.length ≤ c3 ∧ Kd.F Kd.string W ok A3 x.f3.length x.f3 ∧ x.f4.length ≤ c4 ∧ Kd.F Kd.string W ok A4 x.f4.length x.f4 ∧ x.f5.length ≤ c5 ∧ Kd.F k101 W ok A5 x.f5.length x.f5 ∧ x.f6.length ≤ c6 ∧ Kd.F k166 W ok A6 x.f6.length x.f6 := by
  obtain ⟨A3, c3, A4, c4, A5, c5, A6, c6, rfl, l3, _, l4, _, l5, _, l6, _⟩ := k32_open (Kd.FK_now h)
  exact ⟨A3, c3, A4, c4, A5, c5, A6, c6, rfl, l3, (fun W' hW => by obtain ⟨A3_, c3_, A4_, c4_, A5_, c5_, A6_, c6_, he, l3_, g3_, l4_, g4_, l5_, g5_, l6_, g6_⟩ := k32_open (h W' hW); injection (Option.some.inj (show some (Value.slice A3 x.f3.length c3) = some (Value.slice A3_ x.f3.length c3_) from congrArg (fun l => l[3]?) he)) with ha_ _ _; rw [ha_]; exact g3_), l4, (fun W' hW => by obtain ⟨A3_, c3_, A4_, c4_, A5_, c5_, A6_, c6_, he, l3_, g3_, l4_, g4_, l5_, g5_, l6_, g6_⟩ := k32_open (h W' hW); injection (Option.some.inj (show some (Value.slice A4 x.f4.length c4) = some (Value.slice A4_ x.f4.length c4_) from congrArg (fun l => l[4]?) he)) with ha_ _ _; rw [ha_]; exact g4_), l5, (fun W' hW => by obtain ⟨A3_, c3_, A4_, c4_, A5_, c5_, A6_, c6_, he, l3_, g3_, l4_, g4_, l5_, g5_, l6_, g6_⟩ := k32_open (h W' hW); injection (Option.some.inj (show some (Value.slice A5 x.f5.length c5) = some (Value.slice A5_ x.f5.length c5_) from congrArg (fun l => l[5]?) he)) with ha_ _ _; rw [ha_]; exact g5_), l6, (fun W' hW => by obtain ⟨A3_, c3_, A4_, c4_, A5_, c5_, A6_, c6_, he, l3_, g3_, l4_, g4_, l5_, g5_, l6_, g6_⟩ := k32_open (h W' hW); injection (Option.some.inj (show some (Value.slice A6 x.f6.length c6) = some (Value.slice A6_ x.f6.length c6_) from congrArg (fun l => l[6]?) he)) with ha_ _ _; rw [ha_]; exact g6_)⟩
theorem k32_mkF (W : World) (ok : Nat → Prop) (x : S32) {A3 : Option Addr} {c3 : Nat} (l3 : x.f3.length ≤ c3) (g3 : Kd.F Kd.string W ok A3 x.f3.length x.f3) {A4 : Option Addr} {c4 : Nat} (l4 : x.f4.length ≤ c4) (g4 : Kd.F Kd.string W ok A4 x.f4.length x.f4) {A5 : Option Addr} {c5 : Nat} (l5 : x.f5.length ≤ c5) (g5 : Kd.F k101 W ok A5 x.f5.length x.f5) {A6 : Option Addr} {c6 : Nat} (l6 : x.f6.length ≤ c6) (g6 : Kd.F k166 W ok A6 x.f6.length x.f6) : Kd.FK k32 W ok x [.int .i64 x.f0, .string x.f1, .int .i64 x.f2, .slice A3 x.f3.length c3, .slice A4 x.f4.length c4, .slice A5 x.f5.length c5, .slice A6 x.f6.length c6] := fun W2 hW => k32_mk W2 x l3 (g3 W2 hW) l4 (g4 W2 hW) l5 (g5 W2 hW) l6 (g6 W2 hW)
def rd_T32 (xs : List S32) (i : Int) : S32 := xs.getD i.toNat z32
theorem at_T32 {w : World} {A : Option Addr} {n : Nat} {xs : List S32} (h : Kd.C k32 w A n xs) (i : Int) (h0 : 0 ≤ i) (h1 : i < n) : ∃ ad A3 c3 A4 c4 A5 c5 A6 c6, A = some ad ∧ w.cell? (ad.add (i.toNat * 7)) = some (.int .i64 (rd_T32 xs i).f0) ∧ w.cell? ⟨(ad.add (i.toNat * 7)).block, (ad.add (i.toNat * 7)).off + 1, none⟩ = some (.string (rd_T32 xs i).f1) ∧ w.cell? ⟨(ad.add (i.toNat * 7)).block, (ad.add (i.toNat * 7)).off + 2, none⟩ = some (.int .i64 (rd_T32 xs i).f2) ∧ w.cell? ⟨(ad.add (i.toNat * 7)).block, (ad.add (i.toNat * 7)).off + 3, none⟩ = some (.slice A3 (rd_T32 xs i).f3.length c3) ∧ w.cell? ⟨(ad.add (i.toNat * 7)).block, (ad.add (i.toNat * 7)).off + 4, none⟩ = some (.slice A4 (rd_T32 xs i).f4.length c4) ∧ w.cell? ⟨(ad.add (i.toNat * 7)).block, (ad.add (i.toNat * 7)).off + 5, none⟩ = some (.slice A5 (rd_T32 xs i).f5.length c5) ∧ w.cell? ⟨(ad.add (i.toNat * 7)).block, (ad.add (i.toNat * 7)).off + 6, none⟩ = some (.slice A6 (rd_T32 xs i).f6.length c6) ∧ (rd_T32 xs i).f3.length ≤ c3 ∧ Kd.string.C w A3 (rd_T32 xs i).f3.length (rd_T32 xs i).f3 ∧ (rd_T32 xs i).f4.length ≤ c4 ∧ Kd.string.C w A4 (rd_T32 xs i).f4.length (rd_T32 xs i).f4 ∧ (rd_T32 xs i).f5.length ≤ c5 ∧ k101.C w A5 (rd_T32 xs i).f5.length (rd_T32 xs i).f5 ∧ (rd_T32 xs i).f6.length ≤ c6 ∧ k166.C w A6 (rd_T32 xs i).f6.length (rd_T32 xs i).f6 := by
  obtain ⟨ad, c, e, _, hK, hc0⟩ := Kd.C_get h z32 i h0 h1
  have hc : ∀ j u, c[j]? = some u → w.cell? (ad.add (i.toNat * 7 + j)) = some u := hc0
  obtain ⟨A3, c3, A4, c4, A5, c5, A6, c6, rfl, l3, g3, l4, g4, l5, g5, l6, g6⟩ := k32_open hK
  exact ⟨ad, A3, c3, A4, c4, A5, c5, A6, c6, e, hc 0 _ rfl, by rw [← add_field _ _ 1 (by omega)]; exact hc 1 _ rfl, by rw [← add_field _ _ 2 (by omega)]; exact hc 2 _ rfl, by rw [← add_field _ _ 3 (by omega)]; exact hc 3 _ rfl, by rw [← add_field _ _ 4 (by omega)]; exact hc 4 _ rfl, by rw [← add_field _ _ 5 (by omega)]; exact hc 5 _ rfl, by rw [← add_field _ _ 6 (by omega)]; exact hc 6 _ rfl, l3, g3, l4, g4, l5, g5, l6, g6⟩

/-! #### struct type 34 -/
structure S34 where
  f0 : Int
  f1 : Bool
  f2 : S28
  f3 : S32
def z34 : S34 := ⟨(0 : Int), false, z28, z32⟩
def k34 : Kd S34 := Kd.iso (Kd.pair (Kd.int .i64) (Kd.pair Kd.bool (Kd.pair k28 k32))) (fun x : S34 => (x.f0, x.f1, x.f2, x.f3))
theorem k34_heap : Kd.Heap k34 := Kd.heap_iso _ (Kd.heap_pair (Kd.heap_int .i64) (Kd.heap_pair Kd.heap_bool (Kd.heap_pair k28_heap k32_heap)))
theorem k34_open {w : World} {x : S34} {cs : List Value} (h : k34.K w x cs) : ∃ A3 c3 A7 c7 A9 c9 A15 c15 A16 c16 A17 c17 A18 c18, cs = [.int .i64 x.f0, .bool x.f1, .int .i64 x.f2.f0, .slice A3 x.f2.f1.length c3, .int .i64 x.f2.f2, .string x.f2.f3, .string x.f2.f4, .slice A7 x.f2.f5.length c7, .string x.f2.f6, .slice A9 x.f2.f7.length c9, .int .i64 x.f2.f8, .bool x.f2.f9, .int .i64 x.f3.f0, .string x.f3.f1, .int .i64 x.f3.f2, .slice A15 x.f3.f3.length c15, .slice A16 x.f3.f4.length c16, .slice A17 x.f3.f5.length c17, .slice A18 x.f3.f6.length c18] ∧ x.f2.f1.length ≤ c3 ∧ k101.C w A3 x.f2.f1.length x.f2.f1 ∧ x.f2.f5.length ≤ c7 ∧ Kd.string.C w A7 x.f2.f5.length x.f2.f5 ∧ x.f2.f7.length ≤ c9 ∧ (Kd.int .i64).C w A9 x.f2.f7.length x.f2.f7 ∧ x.f3.f3.length ≤ c15 ∧ Kd.string.C w A15 x.f3.f3.length x.f3.f3 ∧ x.f3.f4.length ≤ c16 ∧ Kd.string.C w A16 x.f3.f4.length x.f3.f4 ∧ x.f3.f5.length ≤ c17 ∧ k101.C w A17 x.f3.f5.length x.f3.f5 ∧ x.f3.f6.length ≤ c18 ∧ k166.C w A18 x.f3.f6.length x.f3.f6 := by
  obtain ⟨_, _, rfl, rfl, ⟨_, _, rfl, rfl, ⟨_, _, rfl, s2, s12⟩⟩⟩ := h
  obtain ⟨A3, c3, A7, c7, A9, c9, rfl, l3, g3, l7, g7, l9, g9⟩ := k28_open s2
  obtain ⟨A15, c15, A16, c16, A17, c17, A18, c18, rfl, l15, g15, l16, g16, l17, g17, l18, g18⟩ := k32_open s12
  exact ⟨A3, c3, A7, c7, A9, c9, A15, c15, A16, c16, A17, c17, A18, c18, rfl, l3, g3, l7, g7, l9, g9, l15, g15, l16, g16, l17, g17, l18, g18⟩
theorem k34_openM {w : World} {base : Nat} {ok : Nat → Prop} {x : S34} {cs : List Value} (h : k34.M w base ok x cs) : ∃ v3 v7 v9 v15 v16 v17 v18, cs = [.int .i64 x.f0, .bool x.f1, .int .i64 x.f2.f0, v3, .int .i64 x.f2.f2, .string x.f2.f3, .string x.f2.f4, v7, .string x.f2.f6, v9, .int .i64 x.f2.f8, .bool x.f2.f9, .int .i64 x.f3.f0, .string x.f3.f1, .int .i64 x.f3.f2, v15, v16, v17, v18] ∧ k101.R 101 w base ok v3 x.f2.f1 ∧ Kd.string.R 9 w base ok v7 x.f2.f5 ∧ (Kd.int .i64).R 3 w base ok v9 x.f2.f7 ∧ Kd.string.R 9 w base ok v15 x.f3.f3 ∧ Kd.string.R 9 w base ok v16 x.f3.f4 ∧ k101.R 101 w base ok v17 x.f3.f5 ∧ k166.R 166 w base ok v18 x.f3.f6 := by
  obtain ⟨_, _, rfl, rfl, ⟨_, _, rfl, rfl, ⟨_, _, rfl, s2, s12⟩⟩⟩ := h
  obtain ⟨v3, v7, v9, rfl, g3, g7, g9⟩ := k28_openM s2
  obtain ⟨v15, v16, v17, v18, rfl, g15, g16, g17, g18⟩ := k32_openM s12
  exact ⟨v3, v7, v9, v15, v16, v17, v18, rfl, g3, g7, g9, g15, g16, g17, g18⟩
theorem k34_mk (w : World) (x : S34) {A3 : Option Addr} {c3 : Nat} (l3 : x.f2.f1.length ≤ c3) (g3 : k101.C w A3 x.f2.f1.length x.f2.f1) {A7 : Option Addr} {c7 : Nat} (l7 : x.f2.f5.length ≤ c7) (g7 : Kd.string.C w A7 x.f2.f5.length x.f2.f5) {A9 : Option Addr} {c9 : Nat} (l9 : x.f2.f7.length ≤ c9) (g9 : (Kd.int .i64).C w A9 x.f2.f7.length x.f2.f7) {A15 : Option Addr} {c15 : Nat} (l15 : x.f3.f3.length ≤ c15) (g15 : Kd.string.C w A15 x.f3.f3.length x.f3.f3) {A16 : Option Addr} {c16 : Nat} (l16 : x.f3.f4.length ≤ c16) (g16 : Kd.string.C w A16 x.f3.f4.length x.f3.f4) {A17 : Option Addr} {c17 : Nat} (l17 : x.f3.f5.length ≤ c17) (g17 : k101.C w A17 x.f3.f5.length x.f3.f5) {A18 : Option Addr} {c18 : Nat} (l18 : x.f3.f6.length ≤ c18) (g18 : k166.C w A18 x.f3.f6.length x.f3.f6) : k34.K w x [.int .i64 x.f0, .bool x.f1, .int .i64 x.f2.f0, .slice A3 x.f2.f1.length c3, .int .i64 x.f2.f2, .string x.f2.f3, .string x.f2.f4, .slice A7 x.f2.f5.length c7, .string x.f2.f6, .slice A9 x.f2.f7.length c9, .int .i64 x.f2.f8, .bool x.f2.f9, .int .i64 x.f3.f0, .string x.f3.f1, .int .i64 x.f3.f2, .slice A15 x.f3.f3.length c15, .slice A16 x.f3.f4.length c16, .slice A17 x.f3.f5.length c17, .slice A18 x.f3.f6.length c18] := ⟨[.int .i64 x.f0], [.bool x.f1, .int .i64 x.f2.f0, .slice A3 x.f2.f1.length c3, .int .i64 x.f2.f2, .string x.f2.f3, .string x.f2.f4, .slice A7 x.f2.f5.length c7, .string x.f2.f6, .slice A9 x.f2.f7.length c9, .int .i64 x.f2.f8, .bool x.f2.f9, .int .i64 x.f3.f0, .string x.f3.f1, .int .i64 x.f3.f2, .slice A15 x.f3.f3.length c15, .slice A16 x.f3.f4.length c16, .slice A17 x.f3.f5.length c17, .slice A18 x.f3.f6.length c18], rfl, rfl, ⟨[.bool x.f1], [.int .i64 x.f2.f0, .slice A3 x.f2.f1.length c3, .int .i64 x.f2.f2, .string x.f2.f3, .string x.f2.f4, .slice A7 x.f2.f5.length c7, .string x.f2.f6, .slice A9 x.f2.f7.length c9, .int .i64 x.f2.f8, .bool x.f2.f9, .int .i64 x.f3.f0, .string x.f3.f1, .int .i64 x.f3.f2, .slice A15 x.f3.f3.length c15, .slice A16 x.f3.f4.length c16, .slice A17 x.f3.f5.length c17, .slice A18 x.f3.f6.length c18], rfl, rfl, ⟨[.int .i64 x.f2.f0, .slice A3 x.f2.f1.length c3, .int .i64 x.f2.f2, .string x.f2.f3, .string x.f2.f4, .slice A7 x.f2.f5.length c7, .string x.f2.f6, .slice A9 x.f2.f7.length c9, .int .i64 x.f2.f8, .bool x.f2.f9], [.int .i64 x.f3.f0, .string x.f3.f1, .int .i64 x.f3.f2, .slice A15 x.f3.f3.length c15, .slice A16 x.f3.f4.length c16, .slice A17 x.f3.f5.length c17, .slice A18 x.f3.f6.length c18], rfl, (k28_mk w x.f2 l3 g3 l7 g7 l9 g9), (k32_mk w x.f3 l15 g15 l16 g16 l17 g17 l18 g18)⟩⟩⟩
theorem k34_mkM (w : World) (base : Nat) (ok : Nat → Prop) (x : S34) {v3 : Value} (g3 : k101.R 101 w base ok v3 x.f2.f1) {v7 : Value} (g7 : Kd.string.R 9 w base ok v7 x.f2.f5) {v9 : Value} (g9 : (Kd.int .i64).R 3 w base ok v9 x.f2.f7) {v15 : Value} (g15 : Kd.string.R 9 w base ok v15 x.f3.f3) {v16 : Value} (g16 : Kd.string.R 9 w base ok v16 x.f3.f4) {v17 : Value} (g17 : k101.R 101 w base ok v17 x.f3.f5) {v18 : Value} (g18 : k166.R 166 w base ok v18 x.f3.f6) : k34.M w base ok x [.int .i64 x.f0, .bool x.f1, .int .i64 x.f2.f0, v3, .int .i64 x.f2.f2, .string x.f2.f3, .string x.f2.f4, v7, .string x.f2.f6, v9, .int .i64 x.f2.f8, .bool x.f2.f9, .int .i64 x.f3.f0, .string x.f3.f1, .int .i64 x.f3.f2, v15, v16, v17, v18] := ⟨[.int .i64 x.f0], [.bool x.f1, .int .i64 x.f2.f0, v3, .int .i64 x.f2.f2, .string x.f2.f3, .string x.f2.f4, v7, .string x.f2.f6, v9, .int .i64 x.f2.f8, .bool x.f2.f9, .int .i64 x.f3.f0, .string x.f3.f1, .int .i64 x.f3.f2, v15, v16, v17, v18], rfl, rfl, ⟨[.bool x.f1], [.int .i64 x.f2.f0, v3, .int .i64 x.f2.f2, .string x.f2.f3, .string x.f2.f4, v7, .string x.f2.f6, v9, .int .i64 x.f2.f8, .bool x.f2.f9, .int .i64 x.f3.f0, .string x.f3.f1, .int .i64 x.f3.f2, v15, v16, v17, v18], rfl, rfl, ⟨[.int .i64 x.f2.f0, v3, .int .i64 x.f2.f2, .string x.f2.f3, .string x.f2.f4, v7, .string x.f2.f6, v9, .int .i64 x.f2.f8, .bool x.f2.f9], [.int .i64 x.f3.f0, .string x.f3.f1, .int .i64 x.f3.f2, v15, v16, v17, v18], rfl, (k28_mkM w base ok x.f2 g3 g7 g9), (k32_mkM w base ok x.f3 g15 g16 g17 g18)⟩⟩⟩
theorem k34_openF {W : World} {ok : Nat → Prop} {x : S34} {cs : List Value} (h : Kd.FK k34 W ok x cs) : ∃ A3 c3 A7 c7 A9 c9 A15 c15 A16 c16 A17 c17 A18 c18, cs = [.int .i64 x.f0, .bool x.f1, .int .i64 x.f2.f0, .slice A3 x.f2.f1.length c3, .int .i64 x.f2.f2, .string x.f2.f3, .string x.f2.f4, .slice A7 x.f2.f5.length c7, .string x.f2.f6, .slice A9 x.f2.f7.length c9, .int .i64 x.f2.f8, .bool x.f2.f9, .int .i64 x.f3.f0, .string x.f3.f1, .int .i64 x.f3.f2, .slice A15 x.f3.f3.length c15, .slice A16 x.f3.f4.length c16, .slice A17 x.f3.f5.length c17, .slice A18 x.f3.f6.length c18] ∧ x.f2.f1.length ≤ c3 ∧ Kd.F k101 W ok A3 x.f2.f1.length x.f2.f1 ∧ x.f2.f5.length ≤ c7 ∧ Kd.F Kd.string W ok A7 x.f2.f5.length x.f2.f5 ∧ x.f2.f7.length ≤ c9 ∧ Kd.F (Kd.int .i64) W ok A9 x.f2.f7.length x.f2.f7 ∧ x.f3.f3.length ≤ c15 ∧ Kd.F Kd.string W ok A15 x.f3.f3.length x.f3.f3 ∧ x.f3.f4.length ≤ c16 ∧ Kd.F Kd.string W ok A16 x.f3.f4.length x.f3.f4 ∧ x.f3.f5.length ≤ c17 ∧ Kd.F k101 W ok A17 x.f3.f5.length x.f3.f5 ∧ x.f3.f6.length ≤ c18 ∧ Kd.F k166 W ok A18 x.f3.f6.length x.f3.f6 := by
  obtain ⟨A3, c3, A7, c7, A9, c9, A15, c15, A16, c16, A17, c17, A18, c18, rfl, l3, _, l7, _, l9, _, l15, _, l16, _, l17, _, l18, _⟩ := k34_open (Kd.FK_now h)
  exact ⟨A3, c3, A7, c7, A9, c9, A15, c15, A16, c16, A17, c17, A18, c18, rfl, l3, (fun W' hW => by obtain ⟨A3_, c3_, A7_, c7_, A9_, c9_, A15_, c15_, A16_, c16_, A17_, c17_, A18_, c18_, he, l3_, g3_, l7_, g7_, l9_, g9_, l15_, g15_, l16_, g16_, l17_, g17_, l18_, g18_⟩ := k34_open (h W' hW); injection (Option.some.inj (show some (Value.slice A3 x.f2.f1.length c3) = some (Value.slice A3_ x.f2.f1.length c3_) from congrArg (fun l => l[3]?) he)) with ha_ _ _; rw [ha_]; exact g3_), l7, (fun W' hW => by obtain ⟨A3_, c3_, A7_, c7_, A9_, c9_, A15_, c15_, A16_, c16_, A17_, c17_, A18_, c18_, he, l3_, g3_, l7_, g7_, l9_, g9_, l15_, g15_, l16_, g16_, l17_, g17_, l18_, g18_⟩ := k34_open (h W' hW); injection (Option.some.inj (show some (Value.slice A7 x.f2.f5.length c7) = some (Value.slice A7_ x.f2.f5.length c7_) from congrArg (fun l => l[7]?) he)) with ha_ _ _; rw [ha_]; exact g7_), l9, (fun W' hW => by obtain ⟨A3_, c3_, A7_, c7_, A9_, c9_, A15_, c15_, A16_, c16_, A17_, c17_, A18_, c18_, he, l3_, g3_, l7_, g7_, l9_, g9_, l15_, g15_, l16_, g16_, l17_, g17_, l18_, g18_⟩ := k34_open (h W' hW); injection (Option.some.inj (show some (Value.slice A9 x.f2.f7.length c9) = some (Value.slice A9_ x.f2.f7.length c9_) from congrArg (fun l => l[9]?) he)) with ha_ _ _; rw [ha_]; exact g9_), l15, (fun W' hW => by obtain ⟨A3_, c3_, A7_, c7_, A9_, c9_, A15_, c15_, A16_, c16_, A17_, c17_, A18_, c18_, he, l3_, g3_, l7_, g7_, l9_, g9_, l15_, g15_, l16_, g16_, l17_, g17_, l18_, g18_⟩ := k34_open (h W' hW); injection (Option.some.inj (show some (Value.slice A15 x.f3.f3.length c15) = some (Value.slice A15_ x.f3.f3.length c15_) from congrArg (fun l => l[15]?) he)) with ha_ _ _; rw [ha_]; exact g15_), l16, (fun W' hW => by obtain ⟨A3_, c3_, A7_, c7_, A9_, c9_, A15_, c15_, A16_, c16_, A17_, c17_, A18_, c18_, he, l3_, g3_, l7_, g7_, l9_, g9_, l15_, g15_, l16_, g16_, l17_, g17_, l18_, g18_⟩ := k34_open (h W' hW); injection (Option.some.inj (show some (Value.slice A16 x.f3.f4.length c16) = some (Value.slice A16_ x.f3.f4.length c16_) from congrArg (fun l => l[16]?) he)) with ha_ _ _; rw [ha_]; exact g16_), l17, (fun W' hW => by obtain ⟨A3_, c3_, A7_, c7_, A9_, c9_, A15_, c15_, A16_, c16_, A17_, c17_, A18_, c18_, he, l3_, g3_, l7_, g7_, l9_, g9_, l15_, g15_, l16_, g16_, l17_, g17_, l18_, g18_⟩ := k34_open (h W' hW); injection (Option.some.inj (show some (Value.slice A17 x.f3.f5.length c17) = some (Value.slice A17_ x.f3.f5.length c17_) from congrArg (fun l => l[17]?) he)) with ha_ _ _; rw [ha_]; exact g17_), l18, (fun W' hW => by obtain ⟨A3_, c3_, A7_, c7_, A9_, c9_, A15_, c15_, A16_, c16_, A17_, c17_, A18_, c18_, he, l3_, g3_, l7_, g7_, l9_, g9_, l15_, g15_, l16_, g16_, l17_, g17_, l18_, g18_⟩ := k34_open (h W' hW); injection (Option.some.inj (show some (Value.slice A18 x.f3.f6.length c18) = some (Value.slice A18_ x.f3.f6.length c18_) from congrArg (fun l => l[18]?) he)) with ha_ _ _; rw [ha_]; exact g18_)⟩
theorem k34_mkF (W : World) (ok : Nat → Prop) (x : S34) {A3 : Option Addr} {c3 : Nat} (l3 : x.f2.f1.length ≤ c3) (g3 : Kd.F k101 W ok A3 x.f2.f1.length x.f2.f1) {A7 : Option Addr} {c7 : Nat} (l7 : x.f2.f5.length ≤ c7) (g7 : Kd.F Kd.string W ok A7 x.f2.f5.length x.f2.f5) {A9 : Option Addr} {c9 : Nat} (l9 : x.f2.f7.length ≤ c9) (g9 : Kd.F (Kd.int .i64) W ok A9 x.f2.f7.length x.f2.f7) {A15 : Option Addr} {c15 : Nat} (l15 : x.f3.f3.length ≤ c15) (g15 : Kd.F Kd.string W ok A15 x.f3.f3.length x.f3.f3) {A16 : Option Addr} {c16 : Nat} (l16 : x.f3.f4.length ≤ c16) (g16 : Kd.F Kd.string W ok A16 x.f3.f4.length x.f3.f4) {A17 : Option Addr} {c17 : Nat} (l17 : x.f3.f5.length ≤ c17) (g17 : Kd.F k101 W ok A17 x.f3.f5.length x.f3.f5) {A18 : Option Addr} {c18 : Nat} (l18 : x.f3.f6.length ≤ c18) (g18 : Kd.F k166 W ok A18 x.f3.f6.length x.f3.f6) : Kd.FK k34 W ok x [.int .i64 x.f0, .bool x.f1, .int .i64 x.f2.f0, .slice A3 x.f2.f1.length c3, .int .i64 x.f2.f2, .string x.f2.f3, .string x.f2.f4, .slice A7 x.f2.f5.length c7, .string x.f2.f6, .slice A9 x.f2.f7.length c9, .int .i64 x.f2.f8, .bool x.f2.f9, .int .i64 x.f3.f0, .string x.f3.f1, .int .i64 x.f3.f2, .slice A15 x.f3.f3.length c15, .slice A16 x.f3.f4.length c16, .slice A17 x.f3.f5.length c17, .slice A18 x.f3.f6.length c18] := fun W2 hW => k34_mk W2 x l3 (g3 W2 hW) l7 (g7 W2 hW) l9 (g9 W2 hW) l15 (g15 W2 hW) l16 (g16 W2 hW) l17 (g17 W2 hW) l18 (g18 W2 hW)
def rd_T34 (xs : List S34) (i : Int) : S34 := xs.getD i.toNat z34
theorem at_T34 {w : World} {A : Option Addr} {n : Nat} {xs : List S34} (h : Kd.C k34 w A n xs) (i : Int) (h0 : 0 ≤ i) (h1 : i < n) : ∃ ad A3 c3 A7 c7 A9 c9 A15 c15 A16 c16 A17 c17 A18 c18, A = some ad ∧ w.cell? (ad.add (i.toNat * 19)) = some (.int .i64 (rd_T34 xs i).f0) ∧ w.cell? ⟨(ad.add (i.toNat * 19)).block, (ad.add (i.toNat * 19)).off + 1, none⟩ = some (.bool (rd_T34 xs i).f1) ∧ w.cell? ⟨(ad.add (i.toNat * 19)).block, (ad.add (i.toNat * 19)).off + 2, none⟩ = some (.int .i64 (rd_T34 xs i).f2.f0) ∧ w.cell? ⟨(ad.add (i.toNat * 19)).block, (ad.add (i.toNat * 19)).off + 3, none⟩ = some (.slice A3 (rd_T34 xs i).f2.f1.length c3) ∧ w.cell? ⟨(ad.add (i.toNat * 19)).block, (ad.add (i.toNat * 19)).off + 4, none⟩ = some (.int .i64 (rd_T34 xs i).f2.f2) ∧ w.cell? ⟨(ad.add (i.toNat * 19)).block, (ad.add (i.toNat * 19)).off + 5, none⟩ = some (.string (rd_T34 xs i).f2.f3) ∧ w.cell? ⟨(ad.add (i.toNat * 19)).block, (ad.add (i.toNat * 19)).off + 6, none⟩ = some (.string (rd_T34 xs i).f2.f4) ∧ w.cell? ⟨(ad.add (i.toNat * 19)).block, (ad.add (i.toNat * 19)).off + 7, none⟩ = some (.slice A7 (rd_T34 xs i).f2.f5.length c7) ∧ w.cell? ⟨(ad.add (i.toNat * 19)).block, (ad.add (i.toNat * 19)).off + 8, none⟩ = some (.string (rd_T34 xs i).f2.f6) ∧ w.cell? ⟨(ad.add (i.toNat * 19)).block, (ad.add (i.toNat * 19)).off + 9, none⟩ = some (.slice A9 (rd_T34 xs i).f2.f7.length c9) ∧ w.cell? ⟨(ad.add (i.toNat * 19)).block, (ad.add (i.toNat * 19)).off + 10, none⟩ = some (.int .i64 (rd_T34 xs i).f2.f8) ∧ w.cell? ⟨(ad.add (i.toNat * 19)).block, (ad.add (i.toNat * 19)).off + 11, none⟩ = some (.bool (rd_T34 xs i).f2.f9) ∧ w.cell? ⟨(ad.add (i.toNat * 19)).block, (ad.add (i.toNat * 19)).off + 12, none⟩ = some (.int .i64 (rd_T34 xs i).f3.f0) ∧ w.cell? ⟨(ad.add (i.toNat * 19)).block, (ad.add (i.toNat * 19)).off + 13, none⟩ = some (.string (rd_T34 xs i).f3.f1) ∧ w.cell? ⟨(ad.add (i.toNat * 19)).block, (ad.add (i.toNat * 19)).off + 14, none⟩ = some (.int .i64 (rd_T34 xs i).f3.f2) ∧ w.cell? ⟨(ad.add (i.toNat * 19)).block, (ad.add (i.toNat * 19)).off + 15, none⟩ = some (.slice A15 (rd_T34 xs i).f3.f3.length c15) ∧ w.cell? ⟨(ad.add (i.toNat * 19)).block, (ad.add (i.toNat * 19)).off + 16, none⟩ = some (.slice A16 (rd_T34 xs i).f3.f4.length c16) ∧ w.cell? ⟨(ad.add (i.toNat * 19)).block, (ad.add (i.toNat * 19)).off + 17, none⟩ = some (.slice A17 (rd_T34 xs i).f3.f5.length c17) ∧ w.cell? ⟨(ad.add (i.toNat * 19)).block, (ad.add (i.toNat * 19)).off + 18, none⟩ = some (.slice A18 (rd_T34 xs i).f3.f6.length c18) ∧ (rd_T34 xs i).f2.f1.length ≤ c3 ∧ k101.C w A3 (rd_T34 xs i).f2.f1.length (rd_T34 xs i).f2.f1 ∧ (rd_T34 xs i).f2.f5.length ≤ c7 ∧ Kd.string.C w A7 (rd_T34 xs i).f2.f5.length (rd_T34 xs i).f2.f5 ∧ (rd_T34 xs i).f2.f7.length ≤ c9 ∧ (Kd.int .i64).C w A9 (rd_T34 xs i).f2.f7.length (rd_T34 xs i).f2.f7 ∧ (rd_T34 xs i).f3.f3.length ≤ c15 ∧ Kd.string.C w A15 (rd_T34 xs i).f3.f3.length (rd_T34 xs i).f3.f3 ∧ (rd_T34 xs i).f3.f4.length ≤ c16 ∧ Kd.string.C w A16 (rd_T34 xs i).f3.f4.length (rd_T34 xs i).f3.f4 ∧ (rd_T34 xs i).f3.f5.length ≤ c17 ∧ k101.C w A17 (rd_T34 xs i).f3.f5.length (rd_T34 xs i).f3.f5 ∧ (rd_T34 xs i).f3.f6.length ≤ c18 ∧ k166.C w A18 (rd_T34 xs i).f3.f6.length (rd_T34 xs i).f3.f6 := by
  obtain ⟨ad, c, e, _, hK, hc0⟩ := Kd.C_get h z34 i h0 h1
  have hc : ∀ j u, c[j]? = some u → w.cell? (ad.add (i.toNat * 19 + j)) = some u := hc0
  obtain ⟨A3, c3, A7, c7, A9, c9, A15, c15, A16, c16, A17, c17, A18, c18, rfl, l3, g3, l7, g7, l9, g9, l15, g15, l16, g16, l17, g17, l18, g18⟩ := k34_open hK
  exact ⟨ad, A3, c3, A7, c7, A9, c9, A15, c15, A16, c16, A17, c17, A18, c18, e, hc 0 _ rfl, by rw [← add_field _ _ 1 (by omega)]; exact hc 1 _ rfl, by rw [← add_field _ _ 2 (by omega)]; exact hc 2 _ rfl, by rw [← add_field _ _ 3 (by omega)]; exact hc 3 _ rfl, by rw [← add_field _ _ 4 (by omega)]; exact hc 4 _ rfl, by rw [← add_field _ _ 5 (by omega)]; exact hc 5 _ rfl, by rw [← add_field _ _ 6 (by omega)]; exact hc 6 _ rfl, by rw [← add_field _ _ 7 (by omega)]; exact hc 7 _ rfl, by rw [← add_field _ _ 8 (by omega)]; exact hc 8 _ rfl, by rw [← add_field _ _ 9 (by omega)]; exact hc 9 _ rfl, by rw [← add_field _ _ 10 (by omega)]; exact hc 10 _ rfl, by rw [← add_field _ _ 11 (by omega)]; exact hc 11 _ rfl, by rw [← add_field _ _ 12 (by omega)]; exact hc 12 _ rfl, by rw [← add_field _ _ 13 (by omega)]; exact hc 13 _ rfl, by rw [← add_field _ _ 14 (by omega)]; exact hc 14 _ rfl, by rw [← add_field _ _ 15 (by omega)]; exact hc 15 _ rfl, by rw [← add_field _ _ 16 (by omega)]; exact hc 16 _ rfl, by rw [← add_field _ _ 17 (by omega)]; exact hc 17 _ rfl, by rw [← add_field _ _ 18 (by omega)]; exact hc 18 _ rfl, l3, g3, l7, g7, l9, g9, l15, g15, l16, g16, l17, g17, l18, g18⟩

/-! #### struct type 57 -/
structure S57 where
  f0 : S28
  f1 : S32
  f2 : Int
  f3 : Int
  f4 : Bool
def z57 : S57 := ⟨z28, z32, (0 : Int), (0 : Int), false⟩
def k57 : Kd S57 := Kd.iso (Kd.pair k28 (Kd.pair k32 (Kd.pair (Kd.int .i64) (Kd.pair (Kd.int .i64) Kd.bool)))) (fun x : S57 => (x.f0, x.f1, x.f2, x.f3, x.f4))
theorem k57_heap : Kd.Heap k57 := Kd.heap_iso _ (Kd.heap_pair k28_heap (Kd.heap_pair k32_heap (Kd.heap_pair (Kd.heap_int .i64) (Kd.heap_pair (Kd.heap_int .i64) Kd.heap_bool))))
theorem k57_open {w : World} {x : S57} {cs : List Value} (h : k57.K w x cs) : ∃ A1 c1 A5 c5 A7 c7 A13 c13 A14 c14 A15 c15 A16 c16, cs = [.int .i64 x.f0.f0, .slice A1 x.f0.f1.length c1, .int .i64 x.f0.f2, .string x.f0.f3, .string x.f0.f4, .slice A5 x.f0.f5.length c5, .string x.f0.f6, .slice A7 x.f0.f7.length c7, .int .i64 x.f0.f8, .bool x.f0.f9, .int .i64 x.f1.f0, .string x.f1.f1, .int .i64 x.f1.f2, .slice A13 x.f1.f3.length c13, .slice A14 x.f1.f4.length c14, .slice A15 x.f1.f5.length c15, .slice A16 x.f1.f6.length c16, .int .i64 x.f2, .int .i64 x.f3, .bool x.f4] ∧ x.f0.f1.length ≤ c1 ∧ k101.C w A1 x.f0.f1.length x.f0.f1 ∧ x.f0.f5.length ≤ c5 ∧ Kd.string.C w A5 x.f0.f5.length x.f0.f5 ∧ x.f0.f7.length ≤ c7 ∧ (Kd.int .i64).C w A7 x.f0.f7.length x.f0.f7 ∧ x.f1.f3.length ≤ c13 ∧ Kd.string.C w A13 x.f1.f3.length x.f1.f3 ∧ x.f1.f4.length ≤ c14 ∧ Kd.string.C w A14 x.f1.f4.length x.f1.f4 ∧ x.f1.f5.length ≤ c15 ∧ k101.C w A15 x.f1.f5.length x.f1.f5 ∧ x.f1.f6.length ≤ c16 ∧ k166.C w A16 x.f1.f6.length x.f1.f6 := by
  obtain ⟨_, _, rfl, s0, ⟨_, _, rfl, s10, ⟨_, _, rfl, rfl, ⟨_, _, rfl, rfl, rfl⟩⟩⟩⟩ := h
  obtain ⟨A1, c1, A5, c5, A7, c7, rfl, l1, g1, l5, g5, l7, g7⟩ := k28_open s0
  obtain ⟨A13, c13, A14, c14, A15, c15, A16, c16, rfl, l13, g13, l14, g14, l15, g15, l16, g16⟩ := k32_open s10
  exact ⟨A1, c1, A5, c5, A7, c7, A13, c13, A14, c14, A15, c15, A16, c16, rfl, l1, g1, l5, g5, l7, g7, l13, g13, l14, g14, l15, g15, l16, g16⟩
theorem k57_openM {w : World} {base : Nat} {ok : Nat → Prop} {x : S57} {cs : List Value} (h : k57.M w base ok x cs) : ∃ v1 v5 v7 v13 v14 v15 v16, cs = [.int .i64 x.f0.f0, v1, .int .i64 x.f0.f2, .string x.f0.f3, .string x.f0.f4, v5, .string x.f0.f6, v7, .int .i64 x.f0.f8, .bool x.f0.f9, .int .i64 x.f1.f0, .string x.f1.f1, .int .i64 x.f1.f2, v13, v14, v15, v16, .int .i64 x.f2, .int .i64 x.f3, .bool x.f4] ∧ k101.R 101 w base ok v1 x.f0.f1 ∧ Kd.string.R 9 w base ok v5 x.f0.f5 ∧ (Kd.int .i64).R 3 w base ok v7 x.f0.f7 ∧ Kd.string.R 9 w base ok v13 x.f1.f3 ∧ Kd.string.R 9 w base ok v14 x.f1.f4 ∧ k101.R 101 w base ok v15 x.f1.f5 ∧ k166.R 166 w base ok v16 x.f1.f6 := by
  obtain ⟨_, _, rfl, s0, ⟨_, _, rfl, s10, ⟨_, _, rfl, rfl, ⟨_, _, rfl, rfl, rfl⟩⟩⟩⟩ := h
  obtain ⟨v1, v5, v7, rfl, g1, g5, g7⟩ := k28_openM s0
  obtain ⟨v13, v14, v15, v16, rfl, g13, g14, g15, g16⟩ := k32_openM s10
  exact ⟨v1, v5, v7, v13, v14, v15, v16, rfl, g1, g5, g7, g13, g14, g15, g16⟩
theorem k57_mk (w : World) (x : S57) {A1 : Option Addr} {c1 : Nat} (l1 : x.f0.f1.length ≤ c1) (g1 : k101.C w A1 x.f0.f1.length x.f0.f1) {A5 : Option Addr} {c5 : Nat} (l5 : x.f0.f5.length ≤ c5) (g5 : Kd.string.C w A5 x.f0.f5.length x.f0.f5) {A7 : Option Addr} {c7 : Nat} (l7 : x.f0.f7.length ≤ c7) (g7 : (Kd.int .i64).C w A7 x.f0.f7.length x.f0.f7) {A13 : Option Addr} {c13 : Nat} (l13 : x.f1.f3.length ≤ c13) (g13 : Kd.string.C w A13 x.f1.f3.length x.f1.f3) {A14 : Option Addr} {c14 : Nat} (l14 : x.f1.f4.length ≤ c14) (g14 : Kd.string.C w A14 x.f1.f4.length x.f1.f4) {A15 : Option Addr} {c15 : Nat} (l15 : x.f1.f5.length ≤ c15) (g15 : k101.C w A15 x.f1.f5.length x.f1.f5) {A16 : Option Addr} {c16 : Nat} (l16 : x.f1.f6.length ≤ c16) (g16 : k166.C w A16 x.f1.f6.length x.f1.f6) : k57.K w x [.int .i64 x.f0.f0, .slice A1 x.f0.f1.length c1, .int .i64 x.f0.f2, .string x.f0.f3, .string x.f0.f4, .slice A5 x.f0.f5.length c5, .string x.f0.f6, .slice A7 x.f0.f7.length c7, .int .i64 x.f0.f8, .bool x.f0.f9, .int .i64 x.f1.f0, .string x.f1.f1, .int .i64 x.f1.f2, .slice A13 x.f1.f3.length c13, .slice A14 x.f1.f4.length c14, .slice A15 x.f1.f5.length c15, .slice A16 x.f1.f6.length c16, .int .i64 x.f2, .int .i64 x.f3, .bool x.f4] := ⟨[.int .i64 x.f0.f0, .slice A1 x.f0.f1.length c1, .int .i64 x.f0.f2, .string x.f0.f3, .string x.f0.f4, .slice A5 x.f0.f5.length c5, .string x.f0.f6, .slice A7 x.f0.f7.length c7, .int .i64 x.f0.f8, .bool x.f0.f9], [.int .i64 x.f1.f0, .string x.f1.f1, .int .i64 x.f1.f2, .slice A13 x.f1.f3.length c13, .slice A14 x.f1.f4.length c14, .slice A15 x.f1.f5.length c15, .slice A16 x.f1.f6.length c16, .int .i64 x.f2, .int .i64 x.f3, .bool x.f4], rfl, (k28_mk w x.f0 l1 g1 l5 g5 l7 g7), ⟨[.int .i64 x.f1.f0, .string x.f1.f1, .int .i64 x.f1.f2, .slice A13 x.f1.f3.length c13, .slice A14 x.f1.f4.length c14, .slice A15 x.f1.f5.length c15, .slice A16 x.f1.f6.length c16], [.int .i64 x.f2, .int .i64 x.f3, .bool x.f4], rfl, (k32_mk w x.f1 l13 g13 l14 g14 l15 g15 l16 g16), ⟨[.int .i64 x.f2], [.int .i64 x.f3, .bool x.f4], rfl, rfl, ⟨[.int .i64 x.f3], [.bool x.f4], rfl, rfl, rfl⟩⟩⟩⟩
theorem k57_mkM (w : World) (base : Nat) (ok : Nat → Prop) (x : S57) {v1 : Value} (g1 : k101.R 101 w base ok v1 x.f0.f1) {v5 : Value} (g5 : Kd.string.R 9 w base ok v5 x.f0.f5) {v7 : Value} (g7 : (Kd.int .i64).R 3 w base ok v7 x.f0.f7) {v13 : Value} (g13 : Kd.string.R 9 w base ok v13 x.f1.f3) {v14 : Value} (g14 : Kd.string.R 9 w base ok v14 x.f1.f4) {v15 : Value} (g15 : k101.R 101 w base ok v15 x.f1.f5) {v16 : Value} (g16 : k166.R 166 w base ok v16 x.f1.f6) : k57.M w base ok x [.int .i64 x.f0.f0, v1, .int .i64 x.f0.f2, .string x.f0.f3, .string x.f0.f4, v5, .string x.f0.f6, v7, .int .i64 x.f0.f8, .bool x.f0.f9, .int .i64 x.f1.f0, .string x.f1.f1, .int .i64 x.f1.f2, v13, v14, v15, v16, .int .i64 x.f2, .int .i64 x.f3, .bool x.f4] := ⟨[.int .i64 x.f0.f0, v1, .int .i64 x.f0.f2, .string x.f0.f3, .string x.f0.f4, v5, .string x.f0.f6, v7, .int .i64 x.f0.f8, .bool x.f0.f9], [.int .i64 x.f1.f0, .string x.f1.f1, .int .i64 x.f1.f2, v13, v14, v15, v16, .int .i64 x.f2, .int .i64 x.f3, .bool x.f4], rfl, (k28_mkM w base ok x.f0 g1 g5 g7), ⟨[.int .i64 x.f1.f0, .string x.f1.f1, .int .i64 x.f1.f2, v13, v14, v15, v16], [.int .i64 x.f2, .int .i64 x.f3, .bool x.f4], rfl, (k32_mkM w base ok x.f1 g13 g14 g15 g16), ⟨[.int .i64 x.f2], [.int .i64 x.f3, .bool x.f4], rfl, rfl, ⟨[.int .i64 x.f3], [.bool x.f4], rfl, rfl, rfl⟩⟩⟩⟩
theorem k57_openF {W : World} {ok : Nat → Prop} {x : S57} {cs : List Value} (h : Kd.FK k57 W ok x cs) : ∃ A1 c1 A5 c5 A7 c7 A13 c13 A14 c14 A15 c15 A16 c16, cs = [.int .i64 x.f0.f0, .slice A1 x.f0.f1.length c1, .int .i64 x.f0.f2, .string x.f0.f3, .string x.f0.f4, .slice A5 x.f0.f5.length c5, .string x.f0.f6, .slice A7 x.f0.f7.length c7, .int .i64 x.f0.f8, .bool x.f0.f9, .int .i64 x.f1.f0, .string x.f1.f1, .int .i64 x.f1.f2, .slice A13 x.f1.f3.length c13, .slice A14 x.f1.f4.length c14, .slice A15 x.f1.f5.length c15, .slice A16 x.f1.f6.length c16, .int .i64 x.f2, .int .i64 x.f3, .bool x.f4] ∧ x.f0.f1.length ≤ c1 ∧ Kd.F k101 W ok A1 x.f0.f1.length x.f0.f1 ∧ x.f0.f5.length ≤ c5 ∧ Kd.F Kd.string W ok A5 x.f0.f5.length x.f0.f5 ∧ x.f0.f7.length ≤ c7 ∧ Kd.F (Kd.int .i64) W ok A7 x.f0.f7.length x.f0.f7 ∧ x.f1.f3.length ≤ c13 ∧ Kd.F Kd.string W ok A13 x.f1.f3.length x.f1.f3 ∧ x.f1.f4.length ≤ c14 ∧ Kd.F Kd.string W ok A14 x.f1.f4.length x.f1.f4 ∧ x.f1.f5.length ≤ c15 ∧ Kd.F k101 W ok A15 x.f1.f5.length x.f1.f5 ∧ x.f1.f6.length ≤ c16 ∧ Kd.F k166 W ok A16 x.f1.f6.length x.f1.f6 := by
  obtain ⟨A1, c1, A5, c5, A7, c7, A13, c13, A14, c14, A15, c15, A16, c16, rfl, l1, _, l5, _, l7, _, l13, _, l14, _, l15, _, l16, _⟩ := k57_open (Kd.FK_now h)
  exact ⟨A1, c1, A5, c5, A7, c7, A13, c13, A14, c14, A15, c15, A16, c16, rfl, l1, (fun W' hW => by obtain ⟨A1_, c1_, A5_, c5_, A7_, c7_, A13_, c13_, A14_, c14_, A15_, c15_, A16_, c16_, he, l1_, g1_, l5_, g5_, l7_, g7_, l13_, g13_, l14_, g14_, l15_, g15_, l16_, g16_⟩ := k57_open (h W' hW); injection (Option.some.inj (show some (Value.slice A1 x.f0.f1.length c1) = some (Value.slice A1_ x.f0.f1.length c1_) from congrArg (fun l => l[1]?) he)) with ha_ _ _; rw [ha_]; exact g1_), l5, (fun W' hW => by obtain ⟨A1_, c1_, A5_, c5_, A7_, c7_, A13_, c13_, A14_, c14_, A15_, c15_, A16_, c16_, he, l1_, g1_, l5_, g5_, l7_, g7_, l13_, g13_, l14_, g14_, l15_, g15_, l16_, g16_⟩ := k57_open (h W' hW); injection (Option.some.inj (show some (Value.slice A5 x.f0.f5.length c5) = some (Value.slice A5_ x.f0.f5.length c5_) from congrArg (fun l => l[5]?) he)) with ha_ _ _; rw [ha_]; exact g5_), l7, (fun W' hW => by obtain ⟨A1_, c1_, A5_, c5_, A7_, c7_, A13_, c13_, A14_, c14_, A15_, c15_, A16_, c16_, he, l1_, g1_, l5_, g5_, l7_, g7_, l13_, g13_, l14_, g14_, l15_, g15_, l16_, g16_⟩ := k57_open (h W' hW); injection (Option.some.inj (show some (Value.slice A7 x.f0.f7.length c7) = some (Value.slice A7_ x.f0.f7.length c7_) from congrArg (fun l => l[7]?) he)) with ha_ _ _; rw [ha_]; exact g7_), l13, (fun W' hW => by obtain ⟨A1_, c1_, A5_, c5_, A7_, c7_, A13_, c13_, A14_, c14_, A15_, c15_, A16_, c16_, he, l1_, g1_, l5_, g5_, l7_, g7_, l13_, g13_, l14_, g14_, l15_, g15_, l16_, g16_⟩ := k57_open (h W' hW); injection (Option.some.inj (show some (Value.slice A13 x.f1.f3.length c13) = some (Value.slice A13_ x.f1.f3.length c13_) from congrArg (fun l => l[13]?) he)) with ha_ _ _; rw [ha_]; exact g13_), l14, (fun W' hW => by obtain ⟨A1_, c1_, A5_, c5_, A7_, c7_, A13_, c13_, A14_, c14_, A15_, c15_, A16_, c16_, he, l1_, g1_, l5_, g5_, l7_, g7_, l13_, g13_, l14_, g14_, l15_, g15_, l16_, g16_⟩ := k57_open (h W' hW); injection (Option.some.inj (show some (Value.slice A14 x.f1.f4.length c14) = some (Value.slice A14_ x.f1.f4.length c14_) from congrArg (fun l => l[14]?) he)) with ha_ _ _; rw [ha_]; exact g14_), l15, (fun W' hW => by obtain ⟨A1_, c1_, A5_, c5_, A7_, c7_, A13_, c13_, A14_, c14_, A15_, c15_, A16_, c16_, he, l1_, g1_, l5_, g5_, l7_, g7_, l13_, g13_, l14_, g14_, l15_, g15_, l16_, g16_⟩ := k57_open (h W' hW); injection (Option.some.inj (show some (Value.slice A15 x.f1.f5.length c15) = some (Value.slice A15_ x.f1.f5.length c15_) from congrArg (fun l => l[15]?) he)) with ha_ _ _; rw [ha_]; exact g15_), l16, (fun W' hW => by obtain ⟨A1_, c1_, A5_, c5_, A7_, c7_, A13_, c13_, A14_, c14_, A15_, c15_, A16_, c16_, he, l1_, g1_, l5_, g5_, l7_, g7_, l13_, g13_, l14_, g14_, l15_, g15_, l16_, g16_⟩ := k57_open (h W' hW); injection (Option.some.inj (show some (Value.slice A16 x.f1.f6.length c16) = some (Value.slice A16_ x.f1.f6.length c16_) from congrArg (fun l => l[16]?) he)) with ha_ _ _; rw [ha_]; exact g16_)⟩
theorem k57_mkF (W : World) (ok : Nat → Prop) (x : S57) {A1 : Option Addr} {c1 : Nat} (l1 : x.f0.f1.length ≤ c1) (g1 : Kd.F k101 W ok A1 x.f0.f1.length x.f0.f1) {A5 : Option Addr} {c5 : Nat} (l5 : x.f0.f5.length ≤ c5) (g5 : Kd.F Kd.string W ok A5 x.f0.f5.length x.f0.f5) {A7 : Option Addr} {c7 : Nat} (l7 : x.f0.f7.length ≤ c7) (g7 : Kd.F (Kd.int .i64) W ok A7 x.f0.f7.length x.f0.f7) {A13 : Option Addr} {c13 : Nat} (l13 : x.f1.f3.length ≤ c13) (g13 : Kd.F Kd.string W ok A13 x.f1.f3.length x.f1.f3) {A14 : Option Addr} {c14 : Nat} (l14 : x.f1.f4.length ≤ c14) (g14 : Kd.F Kd.string W ok A14 x.f1.f4.length x.f1.f4) {A15 : Option Addr} {c15 : Nat} (l15 : x.f1.f5.length ≤ c15) (g15 : Kd.F k101 W ok A15 x.f1.f5.length x.f1.f5) {A16 : Option Addr} {c16 : Nat} (l16 : x.f1.f6.length ≤ c16) (g16 : Kd.F k166 W ok A16 x.f1.f6.length x.f1.f6) : Kd.FK k57 W ok x [.int .i64 x.f0.f0, .slice A1 x.f0.f1.length c1, .int .i64 x.f0.f2, .string x.f0.f3, .string x.f0.f4, .slice A5 x.f0.f5.length c5, .string x.f0.f6, .slice A7 x.f0.f7.length c7, .int .i64 x.f0.f8, .bool x.f0.f9, .int .i64 x.f1.f0, .string x.f1.f1, .int .i64 x.f1.f2, .slice A13 x.f1.f3.length c13, .slice A14 x.f1.f4.length c14, .slice A15 x.f1.f5.length c15, .slice A16 x.f1.f6.length c16, .int .i64 x.f2, .int .i64 x.f3, .bool x.f4] := fun W2 hW => k57_mk W2 x l1 (g1 W2 hW) l5 (g5 W2 hW) l7 (g7 W2 hW) l13 (g13 W2 hW) l14 (g14 W2 hW) l15 (g15 W2 hW) l16 (g16 W2 hW)
def rd_T57 (xs : List S57) (i : Int) : S57 := xs.getD i.toNat z57
theorem at_T57 {w : World} {A : Option Addr} {n : Nat} {xs : List S57} (h : Kd.C k57 w A n xs) (i : Int) (h0 : 0 ≤ i) (h1 : i < n) : ∃ ad A1 c1 A5 c5 A7 c7 A13 c13 A14 c14 A15 c15 A16 c16, A = some ad ∧ w.cell? (ad.add (i.toNat * 20)) = some (.int .i64 (rd_T57 xs i).f0.f0) ∧ w.cell? ⟨(ad.add (i.toNat * 20)).block, (ad.add (i.toNat * 20)).off + 1, none⟩ = some (.slice A1 (rd_T57 xs i).f0.f1.length c1) ∧ w.cell? ⟨(ad.add (i.toNat * 20)).block, (ad.add (i.toNat * 20)).off + 2, none⟩ = some (.int .i64 (rd_T57 xs i).f0.f2) ∧ w.cell? ⟨(ad.add (i.toNat * 20)).block, (ad.add (i.toNat * 20)).off + 3, none⟩ = some (.string (rd_T57 xs i).f0.f3) ∧ w.cell? ⟨(ad.add (i.toNat * 20)).block, (ad.add (i.toNat * 20)).off + 4, none⟩ = some (.string (rd_T57 xs i).f0.f4) ∧ w.cell? ⟨(ad.add (i.toNat * 20)).block, (ad.add (i.toNat * 20)).off + 5, none⟩ = some (.slice A5 (rd_T57 xs i).f0.f5.length c5) ∧ w.cell? ⟨(ad.add (i.toNat * 20)).block, (ad.add (i.toNat * 20)).off + 6, none⟩ = some (.string (rd_T57 xs i).f0.f6) ∧ w.cell? ⟨(ad.add (i.toNat * 20)).block, (ad.add (i.toNat * 20)).off + 7, none⟩ = some (.slice A7 (rd_T57 xs i).f0.f7.length c7) ∧ w.cell? ⟨(ad.add (i.toNat * 20)).block, (ad.add (i.toNat * 20)).off + 8, none⟩ = some (.int .i64 (rd_T57 xs i).f0.f8) ∧ w.cell? ⟨(ad.add (i.toNat * 20)).block, (ad.add (i.toNat * 20)).off + 9, none⟩ = some (.bool (rd_T57 xs i).f0.f9) ∧ w.cell? ⟨(ad.add (i.toNat * 20)).block, (ad.add (i.toNat * 20)).off + 10, none⟩ = some (.int .i64 (rd_T57 xs i).f1.f0) ∧ w.cell? ⟨(ad.add (i.toNat * 20)).block, (ad.add (i.toNat * 20)).off + 11, none⟩ = some (.string (rd_T57 xs i).f1.f1) ∧ w.cell? ⟨(ad.add (i.toNat * 20)).block, (ad.add (i.toNat * 20)).off + 12, none⟩ = some (.int .i64 (rd_T57 xs i).f1.f2) ∧ w.cell? ⟨(ad.add (i.toNat * 20)).block, (ad.add (i.toNat * 20)).off + 13, none⟩ = some (.slice A13 (rd_T57 xs i).f1.f3.length c13) ∧ w.cell? ⟨(ad.add (i.toNat * 20)).block, (ad.add (i.toNat * 20)).off + 14, none⟩ = some (.slice A14 (rd_T57 xs i).f1.f4.length c14) ∧ w.cell? ⟨(ad.add (i.toNat * 20)).block, (ad.add (i.toNat * 20)).off + 15, none⟩ = some (.slice A15 (rd_T57 xs i).f1.f5.length c15) ∧ w.cell? ⟨(ad.add (i.toNat * 20)).block, (ad.add (i.toNat * 20)).off + 16, none⟩ = some (.slice A16 (rd_T57 xs i).f1.f6.length c16) ∧ w.cell? ⟨(ad.add (i.toNat * 20)).block, (ad.add (i.toNat * 20)).off + 17, none⟩ = some (.int .i64 (rd_T57 xs i).f2) ∧ w.cell? ⟨(ad.add (i.toNat * 20)).block, (ad.add (i.toNat * 20)).off + 18, none⟩ = some (.int .i64 (rd_T57 xs i).f3) ∧ w.cell? ⟨(ad.add (i.toNat * 20)).block, (ad.add (i.toNat * 20)).off + 19, none⟩ = some (.bool (rd_T57 xs i).f4) ∧ (rd_T57 xs i).f0.f1.length ≤ c1 ∧ k101.C w A1 (rd_T57 xs i).f0.f1.length (rd_T57 xs i).f0.f1 ∧ (rd_T57 xs i).f0.f5.length ≤ c5 ∧ Kd.string.C w A5 (rd_T57 xs i).f0.f5.length (rd_T57 xs i).f0.f5 ∧ (rd_T57 xs i).f0.f7.length ≤ c7 ∧ (Kd.int .i64).C w A7 (rd_T57 xs i).f0.f7.length (rd_T57 xs i).f0.f7 ∧ (rd_T57 xs i).f1.f3.length ≤ c13 ∧ Kd.string.C w A13 (rd_T57 xs i).f1.f3.length (rd_T57 xs i).f1.f3 ∧ (rd_T57 xs i).f1.f4.length ≤ c14 ∧ Kd.string.C w A14 (rd_T57 xs i).f1.f4.length (rd_T57 xs i).f1.f4 ∧ (rd_T57 xs i).f1.f5.length ≤ c15 ∧ k101.C w A15 (rd_T57 xs i).f1.f5.length (rd_T57 xs i).f1.f5 ∧ (rd_T57 xs i).f1.f6.length ≤ c16 ∧ k166.C w A16 (rd_T57 xs i).f1.f6.length (rd_T57 xs i).f1.f6 := by
  obtain ⟨ad, c, e, _, hK, hc0⟩ := Kd.C_get h z57 i h0 h1
  have hc : ∀ j u, c[j]? = some u → w.cell? (ad.add (i.toNat * 20 + j)) = some u := hc0
  obtain ⟨A1, c1, A5, c5, A7, c7, A13, c13, A14, c14, A15, c15, A16, c16, rfl, l1, g1, l5, g5, l7, g7, l13, g13, l14, g14, l15, g15, l16, g16⟩ := k57_open hK
  exact ⟨ad, A1, c1, A5, c5, A7, c7, A13, c13, A14, c14, A15, c15, A16, c16, e, hc 0 _ rfl, by rw [← add_field _ _ 1 (by omega)]; exact hc 1 _ rfl, by rw [← add_field _ _ 2 (by omega)]; exact hc 2 _ rfl, by rw [← add_field _ _ 3 (by omega)]; exact hc 3 _ rfl, by rw [← add_field _ _ 4 (by omega)]; exact hc 4 _ rfl, by rw [← add_field _ _ 5 (by omega)]; exact hc 5 _ rfl, by rw [← add_field _ _ 6 (by omega)]; exact hc 6 _ rfl, by rw [← add_field _ _ 7 (by omega)]; exact hc 7 _ rfl, by rw [← add_field _ _ 8 (by omega)]; exact hc 8 _ rfl, by rw [← add_field _ _ 9 (by omega)]; exact hc 9 _ rfl, by rw [← add_field _ _ 10 (by omega)]; exact hc 10 _ rfl, by rw [← add_field _ _ 11 (by omega)]; exact hc 11 _ rfl, by rw [← add_field _ _ 12 (by omega)]; exact hc 12 _ rfl, by rw [← add_field _ _ 13 (by omega)]; exact hc 13 _ rfl, by rw [← add_field _ _ 14 (by omega)]; exact hc 14 _ rfl, by rw [← add_field _ _ 15 (by omega)]; exact hc 15 _ rfl, by rw [← add_field _ _ 16 (by omega)]; exact hc 16 _ rfl, by rw [← add_field _ _ 17 (by omega)]; exact hc 17 _ rfl, by rw [← add_field _ _ 18 (by omega)]; exact hc 18 _ rfl, by rw [← add_field _ _ 19 (by omega)]; exact hc 19 _ rfl, l1, g1, l5, g5, l7, g7, l13, g13, l14, g14, l15, g15, l16, g16⟩

end Go.Proofs.YtkicenkljjpcfaaGreatDoor.Q
-- Made by wip/qprint.sh (a patched copy of the kit's print program) out of the translation. Lean checks it.
namespace Go.Proofs.YtkicenkljjpcfaaGreatDoor.Q
open Go.RowKit Go.Proofs.YtkicenkljjpcfaaGreatDoorW.PrintWords Go.Proofs.YtkicenkljjpcfaaGreatDoorW.PrintLast Go.Proofs.YtkicenkljjpcfaaGreatDoorW.PrintMore
attribute [local go_sem] max2_int min2_int max_two min_two max_three min_three max_four min_four   -- for this text's walks alone
set_option linter.unusedVariables false
set_option linter.unusedSimpArgs false

theorem eqA101 (d : Nat) (w : World) (x0 y0 : ByteArray) (x1 y1 : Int) (x2 y2 : Int) (x3 y3 : Int) (x4 y4 : Int) (x5 y5 : ByteArray) :
    (Op.equalIn (d + 2) 101 (.agg #[.string x0, .int .i64 x1, .int .i64 x2, .int .i64 x3, .int .i64 x4, .string x5]) (.agg #[.string y0, .int .i64 y1, .int .i64 y2, .int .i64 y3, .int .i64 y4, .string y5])).run Tryz.prog w = .ok (x0.toList == y0.toList && (x1 == y1 && (x2 == y2 && (x3 == y3 && (x4 == y4 && (x5.toList == y5.toList)))))) w := by
  refine eqA_of Tryz.underlying101 (by kernel_rfl) ?_
  refine eqf_cons (by rfl) (by go_simp; rfl) (by go_simp; rfl) (by go_simp) ?_
  refine eqf_cons (by rfl) (by go_simp; rfl) (by go_simp; rfl) (by go_simp) ?_
  refine eqf_cons (by rfl) (by go_simp; rfl) (by go_simp; rfl) (by go_simp) ?_
  refine eqf_cons (by rfl) (by go_simp; rfl) (by go_simp; rfl) (by go_simp) ?_
  refine eqf_cons (by rfl) (by go_simp; rfl) (by go_simp; rfl) (by go_simp) ?_
  exact eqf_last (by rfl) (by go_simp; rfl) (by go_simp; rfl) (by go_simp)
end Go.Proofs.YtkicenkljjpcfaaGreatDoor.Q
-- Made by wip/qprint.sh (a patched copy of the kit's print program) out of the translation. Lean checks it.
namespace Go.Proofs.YtkicenkljjpcfaaGreatDoor.Q
open Go.RowKit Go.Proofs.YtkicenkljjpcfaaGreatDoorW.PrintWords Go.Proofs.YtkicenkljjpcfaaGreatDoorW.PrintLast Go.Proofs.YtkicenkljjpcfaaGreatDoorW.PrintMore
attribute [local go_sem] max2_int min2_int max_two min_two max_three min_three max_four min_four   -- for this text's walks alone
set_option linter.unusedVariables false
set_option linter.unusedSimpArgs false

/-! ### sha_IsId: function 36 -/
def sha_IsId.f (a0 : ByteArray) : Option (Bool) := some ((a0.size : Int) == 32)
set_option maxHeartbeats 8000000 in
set_option maxRecDepth 100000 in
theorem sha_IsId.calls (a0 : ByteArray) (r : Bool) (w : World) (h : sha_IsId.f a0 = some r) :
    Calls Tryz.prog 36 #[.string a0] w fun e w' => e = .returned (.bool r) ∧ Drawn0 w w' := by
  have H : (some ((a0.size : Int) == 32)) = some r := h
  clear h
  obtain rfl := Option.some.inj H
  go_enter Tryz.func36, Tryz.ntmps36
  go_wp2
  go_ret
  exact ⟨by first | rfl | (simp; done) | (simp [*]; done), by repeat (first | exact Drawn0.refl _ | apply Drawn0.step)⟩

end Go.Proofs.YtkicenkljjpcfaaGreatDoor.Q
-- Made by wip/qprint.sh (a patched copy of the kit's print program) out of the translation. Lean checks it.
namespace Go.Proofs.YtkicenkljjpcfaaGreatDoor.Q
open Go.RowKit Go.Proofs.YtkicenkljjpcfaaGreatDoorW.PrintWords Go.Proofs.YtkicenkljjpcfaaGreatDoorW.PrintLast Go.Proofs.YtkicenkljjpcfaaGreatDoorW.PrintMore
attribute [local go_sem] max2_int min2_int max_two min_two max_three min_three max_four min_four   -- for this text's walks alone
set_option linter.unusedVariables false
set_option linter.unusedSimpArgs false

/-! ### garretref33_within: function 69 -/
def garretref33_within.l0 : Nat → ByteArray → List ByteArray → Int → Option (Bool)
  | 0, _, _, _ => none
  | k + 1, x0, x1, x5 => if x5 < (x1.length : Int) then (if 0 ≤ x5 then (if (rdOf ByteArray.empty x1 x5).toList = x0.toList then (some true) else (garretref33_within.l0 k x0 x1 (wrap64 (x5 + 1)))) else (none)) else (some false)
def garretref33_within.f (k : Nat) (a0 : ByteArray) (l1 : List ByteArray) : Option (Bool) := garretref33_within.l0 k a0 l1 0
theorem garretref33_within.mono_l : ∀ k, (∀ y0 y1 y2, LeO (garretref33_within.l0 k y0 y1 y2) (garretref33_within.l0 (k + 1) y0 y1 y2))
  | 0 => fun _ _ _ r h => by simp [garretref33_within.l0] at h
  | k + 1 => by
    have ih0 := garretref33_within.mono_l k
    · intro y0 y1 y2
      unfold garretref33_within.l0
      repeat' first
      | (with_reducible exact ih0 _ _ _)
      | (with_reducible exact LeO.refl _)
      | (with_reducible exact LeO.none _)
      | (with_reducible refine LeO.ite ?_ ?_)
      | (with_reducible refine LeO.bind ?_ (fun _ => ?_))
      | exact ih0 _ _ _
      | exact LeO.none _
      | refine LeO.ite ?_ ?_
      | refine LeO.bind ?_ (fun _ => ?_)
theorem garretref33_within.mono : ∀ a0 a1 k, LeO (garretref33_within.f k a0 a1) (garretref33_within.f (k + 1) a0 a1) := by
  intro a0 a1 k
  have ih0 := garretref33_within.mono_l k
  unfold garretref33_within.f
  repeat' first
      | (with_reducible exact ih0 _ _ _)
      | (with_reducible exact LeO.refl _)
      | (with_reducible exact LeO.none _)
      | (with_reducible refine LeO.ite ?_ ?_)
      | (with_reducible refine LeO.bind ?_ (fun _ => ?_))
      | exact ih0 _ _ _
      | exact LeO.none _
      | refine LeO.ite ?_ ?_
      | refine LeO.bind ?_ (fun _ => ?_)
set_option maxHeartbeats 8000000 in
set_option maxRecDepth 100000 in
theorem garretref33_within.calls (k : Nat) (a0 : ByteArray) (A1 : Option Addr) (c1 : Nat) (l1 : List ByteArray) (r : Bool) (w : World) (hr1 : Kd.C Kd.string w A1 l1.length l1) (hc1 : l1.length ≤ c1) (h : garretref33_within.f k a0 l1 = some r) :
    Calls Tryz.prog 69 #[.string a0, .slice A1 l1.length c1] w fun e w' => e = .returned (.bool r) ∧ Drawn0 w w' := by
  have HR1 := Aside0.mk hr1
  have HC1 := Aside0.mk hc1
  clear hr1 hc1
  have H : (garretref33_within.l0 k a0 l1 0) = some r := h
  clear h
  have H' := Aside0.mk H
  clear H
  go_enter Tryz.func69, Tryz.ntmps69
  go_wp2
  go_loopg [5] k (fun kq v5 w' => ∃ (x5_1 : Int), v5 = .int .i64 x5_1 ∧ Aside0 (garretref33_within.l0 kq a0 l1 x5_1 = some r) ∧ Aside0 (kq ≤ k) ∧ Drawn0 w w')
  case atStart => exact ⟨(0), (by first | rfl | (simp; done) | (simp [*]; done)), H', ⟨Nat.le_refl _⟩, by repeat (first | exact Drawn0.refl _ | apply Drawn0.step)⟩
  case round =>
    clear H'
    try clear c1
    try clear p2
    obtain ⟨x5_1, rfl, HA, HK1, ⟨m1, rfl⟩⟩ := hrel
    cases gk with
    | zero => exact absurd HA.out (by simp [garretref33_within.l0])
    | succ k1 =>
      have H := HA.out
      clear HA
      simp only [garretref33_within.l0] at H
      by_cases c3 : x5_1 < (l1.length : Int)
      · rw [if_pos c3] at H
        have c3b0 : decide (x5_1 < (l1.length : Int)) = true := decide_eq_true c3
        clear c3
        by_cases c4 : 0 ≤ x5_1
        · rw [if_pos c4] at H
          have c4b0 : decide (0 ≤ x5_1) = true := decide_eq_true c4
          clear c4
          by_cases c5 : (rdOf ByteArray.empty l1 x5_1).toList = a0.toList
          · rw [if_pos c5] at H
            have c5b0 : ((rdOf ByteArray.empty l1 x5_1).toList == a0.toList) = true := beq_iff_eq.mpr c5
            have c5b1 : ((rdOf ByteArray.empty l1 x5_1).toList != a0.toList) = false := bne_eq_false_iff_eq.mpr c5
            clear c5
            obtain rfl := Option.some.inj H
            have p141 : 0 ≤ (x5_1 : Int) := of_decide_eq_true (by first | (with_reducible assumption) | assumption)
            have q141 : x5_1 < (l1.length : Int) := of_decide_eq_true (by first | (with_reducible assumption) | assumption)
            obtain ⟨ad141, e141, hx141_0⟩ := Kd.at_string HR1.out x5_1 p141 q141
            cases e141
            replace p141 := eq_true p141
            replace q141 := eq_true q141
            go_wp2
            go_ret
            exact ⟨by first | rfl | (simp; done) | (simp [*]; done), by repeat (first | exact Drawn0.refl _ | apply Drawn0.step)⟩
          · rw [if_neg c5] at H
            have c5b0 : ((rdOf ByteArray.empty l1 x5_1).toList == a0.toList) = false := beq_eq_false_iff_ne.mpr c5
            have c5b1 : ((rdOf ByteArray.empty l1 x5_1).toList != a0.toList) = true := bne_iff_ne.mpr c5
            have H' := Aside0.mk H
            clear H
            have p141 : 0 ≤ (x5_1 : Int) := of_decide_eq_true (by first | (with_reducible assumption) | assumption)
            have q141 : x5_1 < (l1.length : Int) := of_decide_eq_true (by first | (with_reducible assumption) | assumption)
            obtain ⟨ad141, e141, hx141_0⟩ := Kd.at_string HR1.out x5_1 p141 q141
            cases e141
            replace p141 := eq_true p141
            replace q141 := eq_true q141
            go_wp2
            go_roundg k1
            case measure => have := HK1.out; omega
            case rel => exact ⟨(wrap64 (x5_1 + 1)), (by first | rfl | (simp; done) | (simp [*]; done)), H', ⟨by have := HK1.out; omega⟩, by repeat (first | exact Drawn0.refl _ | apply Drawn0.step)⟩
        · rw [if_neg c4] at H
          exact absurd H (by simp)
      · rw [if_neg c3] at H
        have c3b0 : decide (x5_1 < (l1.length : Int)) = false := decide_eq_false c3
        clear c3
        obtain rfl := Option.some.inj H
        go_wp2
        go_ret
        exact ⟨by first | rfl | (simp; done) | (simp [*]; done), by repeat (first | exact Drawn0.refl _ | apply Drawn0.step)⟩

end Go.Proofs.YtkicenkljjpcfaaGreatDoor.Q
