/- What is told: a map from paths, all to true. -/
import Derived.Test.YtkbofkpkemfedaaDoorHTreesG
import Derived.Maps.Own
import Derived.Maps.Views
import Derived.StringKeys
namespace Go.Proofs.YtkbofkpkemfedaaDoor.Q
open Go.RowKit Go.Maps Go.WideElems Go.WideMaps Go.Proofs.YtkbofkpkemfedaaDoorW.PrintWords
theorem plainElem_bool_inv {P : Program} {e : TypeId} (he : P.underlying e = some .bool) {v : Value} {z : DataW Unit × List MemPlace} (h : plainElem P e v = some z) : ∃ x, v = .bool x ∧ z = (.lit (.bool x), []) := by
  unfold plainElem at h
  rw [he] at h
  split at h
  · rename_i x _ _
    exact ⟨_, rfl, (Option.some.inj h).symm⟩
  all_goals simp_all
def setD : List ByteArray → DataW Unit
  | [] => .map []
  | x :: l => (setD l).put (.string x.data.toList) (.lit (.bool true))
theorem setD_isMap : ∀ l, IsMap (setD l)
  | [] => isMap_empty
  | _ :: l => (setD_isMap l).put _ _
theorem setD_in (y : ByteArray) : ∀ l, y ∈ l → (setD l).atKey (.string y.data.toList) (.lit (.bool false)) = .lit (.bool true)
  | x :: l, h => by
    rw [setD]
    by_cases e : (Lit.string y.data.toList) = .string x.data.toList
    · rw [e, atKey_put_same (setD_isMap l) (show WideAt.IsKeyLit (.string x.data.toList) from trivial)]
    · rw [atKey_put_other e]
      rcases List.mem_cons.1 h with rfl | h
      · exact absurd rfl e
      · exact setD_in y l h
abbrev IsSet (w : World) (B n : Nat) (l : List ByteArray) : Prop := w.ownsMap Tryd.prog 9 (plainElem Tryd.prog 4) B n (setD l)
theorem keyed9 : Keyed Tryd.prog 9 := string_keyed Tryd.underlying9
theorem look_told {w : World} {B n : Nat} {l : List ByteArray} (h : IsSet w B n l) (y : ByteArray) (hy : y.size ≤ 300) (hm : y ∈ l) : (Instr.lookup 28 (.map (some B)) (.string y) false).run Tryd.prog w = .ok (.bool true) w := by
  obtain ⟨v, ps, hrun, hv⟩ := h.lookup keyed9 Tryd.underlying28 (z := .bool false) rfl (plainElem_bool Tryd.underlying4 false) (keyOf_string_mk Tryd.underlying9 (s := y) (by simp only [maxLen]; omega))
  obtain ⟨x, rfl, hx⟩ := plainElem_bool_inv Tryd.underlying4 hv
  rw [setD_in y l hm] at hx
  simp only [Prod.mk.injEq, DataW.lit.injEq, Lit.bool.injEq] at hx
  rw [hrun, ← hx.1]
theorem put_told {w : World} {B n : Nat} {l : List ByteArray} (h : IsSet w B n l) (y : ByteArray) (hy : y.size ≤ 300) (hn : n ≤ 1000) :
    ∃ w', (Instr.mapUpdate 28 (.map (some B)) (.string y) (.bool true)).run Tryd.prog w = .ok () w' ∧ IsSet w' B (n + 1) (y :: l) ∧ w.grownBy w' (some B) :=
  h.update keyed9 Tryd.underlying28 (by simp only [maxLen]; omega) (keyOf_string_mk Tryd.underlying9 (s := y) (by simp only [maxLen]; omega)) (plainElem_bool Tryd.underlying4 true)
end Go.Proofs.YtkbofkpkemfedaaDoor.Q
