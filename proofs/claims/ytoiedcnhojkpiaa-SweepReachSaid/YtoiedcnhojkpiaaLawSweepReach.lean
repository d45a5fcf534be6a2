/- SweepReach: for every list of what is found, and every root, the law returns true; what came in reads behind as it read before. Every input, no condition. -/
import Derived.Test.YtoiedcnhojkpiaaMR
import Derived.Test.YtoiedcnhojkpiaaRows
import Derived.WalkKit
import Derived.ProofKit
import Derived.OpenShut
import Derived.ShutString
import Derived.ChangeOld
import Derived.Below
import Derived.SizedLaws
import Derived.Deep.SlicePairs
import Derived.Deep.Slices
import Derived.SliceStrings
namespace Go.Proofs.Ytoiedcnhojkpiaa.sweepReach
open Go.ChangeShapes Go.WideShapes Go.ChangeAt Go.RowKit Go.Deep
open Go.ChangeMaps (open_string shut_string)
open Go.Proofs.YtoiedcnhojkpiaaW.PrintWords
theorem own : ownKnob Try.prog.godebug = none := by kernel_rfl
theorem laidOut : laidOutB Try.prog = true := by kernel_rfl
theorem len10 {α : Type} : ∀ (l : List α), l.length = 10 → ∃ a0 a1 a2 a3 a4 a5 a6 a7 a8 a9, l = [a0, a1, a2, a3, a4, a5, a6, a7, a8, a9]
  | [a0, a1, a2, a3, a4, a5, a6, a7, a8, a9], _ => ⟨a0, a1, a2, a3, a4, a5, a6, a7, a8, a9, rfl⟩
section
variable {H : Type} {enc : TypeId × Value → H} {w : World} {base : Nat} {spare : Nat → Bool} {held : Bool}
theorem some_of {α : Type} {xs : List α} {n i : Nat} (h : xs.length = n) (hi : i < n) : ∃ y, xs[i]? = some y := ⟨xs[i], List.getElem?_eq_getElem (by omega)⟩
/-- A list of ids that came in. -/
theorem ids_of {n : Nat} {v : Value} {y : DataW H × List MemPlace} (h : DataW.trod enc Try.prog w base spare held n 23 [v] = some y) :
    ∃ (A : Option Addr) (m c : Nat) (ids : List ByteArray), v = .slice A m c ∧ Kd.C Kd.string w A m ids ∧ m ≤ c ∧ ∀ s ∈ ids, s.size ≤ maxLen := by
  have c9 : Try.prog.cellsOf 9 = 1 := by kernel_rfl
  rcases open_strings Try.underlying23 Try.underlying9 c9 h with ⟨hc, _⟩ | ⟨a, len, cap, ss, hc, _, hl, hm, hss, _, hcell, hsz⟩
  · simp only [List.cons.injEq, and_true] at hc
    exact ⟨none, 0, 0, [], hc, Kd.C_nil Kd.string w, Nat.le_refl _, by simp⟩
  · simp only [List.cons.injEq, and_true] at hc
    have hls : len ≤ ss.length := by rw [hss]; split <;> omega
    refine ⟨some a, len, cap, ss.take len, hc, ⟨by rw [List.length_take]; omega, by unfold maxLen at hm; omega, fun _ => ⟨a, rfl, fun j q hj => ⟨[.string q], rfl, rfl, fun i u hu => ?_⟩⟩⟩, hl, fun s hs => hsz s (List.mem_of_mem_take hs)⟩
    have hjl := (List.getElem?_eq_some_iff.1 hj).1
    rw [List.length_take] at hjl
    match i, hu with
    | 0, hu =>
      simp only [List.getElem?_cons_zero, Option.some.injEq] at hu
      subst hu
      have h1 := hcell j (by omega)
      rw [List.getElem?_take, if_pos (by omega)] at hj
      rw [List.getD_eq_getElem?_getD, hj] at h1
      show w.cell? (a.add (j * 1 + 0)) = _
      rw [Nat.mul_one, Nat.add_zero]
      exact h1
/-- One that is found. -/
theorem el_found {n : Nat} {cs : List Value} {y : DataW H × List MemPlace} (h : DataW.trod enc Try.prog w base spare held n 61 cs = some y) : ∃ x : Q.X63, cs = Q.encX x ∧ Q.RdX w x := by
  have c61 : Try.prog.cellsOf 61 = 10 := by kernel_rfl
  have c59 : Try.prog.cellsOf 59 = 9 := by kernel_rfl
  have c23 : Try.prog.cellsOf 23 = 1 := by kernel_rfl
  have c9 : Try.prog.cellsOf 9 = 1 := by kernel_rfl
  have c3 : Try.prog.cellsOf 3 = 1 := by kernel_rfl
  obtain ⟨xs, m, _, _, hl, hxl, hf⟩ := DataW.trod_struct Try.underlying61 h
  rw [c61] at hl
  obtain ⟨v0, v1, v2, v3, v4, v5, v6, v7, v8, v9, rfl⟩ := len10 cs hl
  obtain ⟨y0, hy0⟩ := some_of (i := 0) hxl (by decide)
  obtain ⟨y1, hy1⟩ := some_of (i := 1) hxl (by decide)
  have h0 : DataW.trod enc Try.prog w base spare held m 9 (([v0, v1, v2, v3, v4, v5, v6, v7, v8, v9].drop 0).take (Try.prog.cellsOf 9)) = some y0 := (hf 0 _ rfl).trans hy0
  have h1 : DataW.trod enc Try.prog w base spare held m 59 (([v0, v1, v2, v3, v4, v5, v6, v7, v8, v9].drop 1).take (Try.prog.cellsOf 59)) = some y1 := (hf 1 _ rfl).trans hy1
  rw [c9] at h0
  rw [c59] at h1
  obtain ⟨zs, m2, _, _, _, hzl, hg⟩ := DataW.trod_struct Try.underlying59 h1
  have st : ∀ {k : Nat} {v : Value} {y : DataW H × List MemPlace}, DataW.trod enc Try.prog w base spare held k 9 [v] = some y → ∃ s : ByteArray, v = .string s ∧ s.size ≤ maxLen := fun {k v y} ht => by
    obtain ⟨s, e, _, hs⟩ := DataW.trod_string Try.underlying9 ht
    simp only [List.cons.injEq, and_true] at e
    exact ⟨s, e, hs⟩
  have it : ∀ {k : Nat} {v : Value} {y : DataW H × List MemPlace}, DataW.trod enc Try.prog w base spare held k 3 [v] = some y → ∃ z : Int, v = .int .i64 z := fun {k v y} ht => by
    obtain ⟨s, e, _⟩ := DataW.trod_int Try.underlying3 ht
    simp only [List.cons.injEq, and_true] at e
    exact ⟨s, e⟩
  obtain ⟨z0, hz0⟩ := some_of (i := 0) hzl (by decide)
  obtain ⟨z1, hz1⟩ := some_of (i := 1) hzl (by decide)
  obtain ⟨z2, hz2⟩ := some_of (i := 2) hzl (by decide)
  obtain ⟨z3, hz3⟩ := some_of (i := 3) hzl (by decide)
  obtain ⟨z4, hz4⟩ := some_of (i := 4) hzl (by decide)
  obtain ⟨z5, hz5⟩ := some_of (i := 5) hzl (by decide)
  obtain ⟨z6, hz6⟩ := some_of (i := 6) hzl (by decide)
  obtain ⟨z7, hz7⟩ := some_of (i := 7) hzl (by decide)
  obtain ⟨z8, hz8⟩ := some_of (i := 8) hzl (by decide)
  have g0 : DataW.trod enc Try.prog w base spare held m2 9 (([v1, v2, v3, v4, v5, v6, v7, v8, v9].drop 0).take (Try.prog.cellsOf 9)) = some z0 := (hg 0 _ rfl).trans hz0
  have g1 : DataW.trod enc Try.prog w base spare held m2 3 (([v1, v2, v3, v4, v5, v6, v7, v8, v9].drop 1).take (Try.prog.cellsOf 3)) = some z1 := (hg 1 _ rfl).trans hz1
  have g2 : DataW.trod enc Try.prog w base spare held m2 3 (([v1, v2, v3, v4, v5, v6, v7, v8, v9].drop 2).take (Try.prog.cellsOf 3)) = some z2 := (hg 2 _ rfl).trans hz2
  have g3 : DataW.trod enc Try.prog w base spare held m2 3 (([v1, v2, v3, v4, v5, v6, v7, v8, v9].drop 3).take (Try.prog.cellsOf 3)) = some z3 := (hg 3 _ rfl).trans hz3
  have g4 : DataW.trod enc Try.prog w base spare held m2 3 (([v1, v2, v3, v4, v5, v6, v7, v8, v9].drop 4).take (Try.prog.cellsOf 3)) = some z4 := (hg 4 _ rfl).trans hz4
  have g5 : DataW.trod enc Try.prog w base spare held m2 3 (([v1, v2, v3, v4, v5, v6, v7, v8, v9].drop 5).take (Try.prog.cellsOf 3)) = some z5 := (hg 5 _ rfl).trans hz5
  have g6 : DataW.trod enc Try.prog w base spare held m2 23 (([v1, v2, v3, v4, v5, v6, v7, v8, v9].drop 6).take (Try.prog.cellsOf 23)) = some z6 := (hg 6 _ rfl).trans hz6
  have g7 : DataW.trod enc Try.prog w base spare held m2 9 (([v1, v2, v3, v4, v5, v6, v7, v8, v9].drop 7).take (Try.prog.cellsOf 9)) = some z7 := (hg 7 _ rfl).trans hz7
  have g8 : DataW.trod enc Try.prog w base spare held m2 9 (([v1, v2, v3, v4, v5, v6, v7, v8, v9].drop 8).take (Try.prog.cellsOf 9)) = some z8 := (hg 8 _ rfl).trans hz8
  rw [c9] at g0 g7 g8
  rw [c3] at g1 g2 g3 g4 g5
  rw [c23] at g6
  obtain ⟨s0, rfl, _⟩ := st h0
  obtain ⟨s1, rfl, _⟩ := st g0
  obtain ⟨i2, rfl⟩ := it g1
  obtain ⟨i3, rfl⟩ := it g2
  obtain ⟨i4, rfl⟩ := it g3
  obtain ⟨i5, rfl⟩ := it g4
  obtain ⟨i6, rfl⟩ := it g5
  obtain ⟨A, k, c, ids, rfl, hC, hkc, hsz⟩ := ids_of g6
  obtain rfl : ids.length = k := hC.1
  obtain ⟨s8, rfl, h8⟩ := st g7
  obtain ⟨s9, rfl, _⟩ := st g8
  exact ⟨⟨⟨s0, ⟨s1, i2, i3, i4, i5, i6, ids, s8, s9⟩⟩, A, c⟩, rfl, ⟨hkc, hC⟩, h8, hsz⟩
set_option maxRecDepth 100000 in
/-- A list of what is found that came in. -/
theorem open_found {v : Value} {d : DataW H} {p : List MemPlace} {r : Reach} {b0 : Nat} (hv : Value.okWide Try.prog w r b0 55 v) (h : DataW.Trod enc Try.prog w base spare held 55 v d p) :
    ∃ (A : Option Addr) (c : Nat) (l : List Q.X63), v = .slice A l.length c ∧ Kd.C Q.kX w A l.length l ∧ (∀ x ∈ l, Q.RdX w x) ∧ l.length ≤ 9223372036854775807 := by
  obtain ⟨A, n, c, rfl⟩ := okWide_slice Try.underlying55 hv
  obtain ⟨fuel, hf⟩ := h
  have c61 : Try.prog.cellsOf 61 = 10 := by kernel_rfl
  rcases open_slice Try.underlying55 hf with ⟨hc, hx⟩ | ⟨a, len, cap, m, k, D, P, hcs, _, hl, hm, hmm, hx, hcell⟩
  · simp only [Value.cells, List.cons.injEq, Value.slice.injEq, and_true] at hc
    obtain ⟨rfl, rfl, rfl⟩ := hc
    exact ⟨none, 0, [], rfl, Kd.C_nil Q.kX w, by simp, by simp⟩
  · simp only [Value.cells, List.cons.injEq, Value.slice.injEq, and_true] at hcs
    obtain ⟨rfl, rfl, rfl⟩ := hcs
    have hlm : n ≤ m := by rw [hmm]; split <;> omega
    have each : ∀ i, i < n → ∃ x : Q.X63, (∀ j u, (Q.encX x)[j]? = some u → w.cell? (a.add (i * 10 + j)) = some u) ∧ Q.RdX w x := by
      intro i hi
      obtain ⟨cs, hc, ht⟩ := hcell i (by omega)
      obtain ⟨x, rfl, hR⟩ := el_found ht
      refine ⟨x, fun j u hu => ?_, hR⟩
      rw [c61] at hc
      obtain ⟨_, _, hat⟩ := World.cells?_some hc
      have hj : j < 10 := by have := (List.getElem?_eq_some_iff.1 hu).1; simpa [Q.encX] using this
      rw [← Go.Deep.add_add, hat j hj, hu]
    obtain ⟨X, hX⟩ : ∃ X : Nat → Q.X63, ∀ i, i < n → (∀ j u, (Q.encX (X i))[j]? = some u → w.cell? (a.add (i * 10 + j)) = some u) ∧ Q.RdX w (X i) := ⟨fun i => if hi : i < n then (each i hi).choose else ⟨Q.z63, none, 0⟩, fun i hi => by simp only [dif_pos hi]; exact (each i hi).choose_spec⟩
    have hln : ((List.range n).map X).length = n := by rw [List.length_map, List.length_range]
    refine ⟨some a, c, (List.range n).map X, by rw [hln], ?_, ?_, by rw [hln]; unfold maxLen at hm; omega⟩
    · rw [hln]
      refine ⟨hln, by unfold maxLen at hm; omega, fun _ => ⟨a, rfl, fun j q hj => ?_⟩⟩
      have hjn : j < n := by
        have := (List.getElem?_eq_some_iff.1 hj).1
        omega
      rw [List.getElem?_map, List.getElem?_range hjn] at hj
      simp only [Option.map_some, Option.some.injEq] at hj
      subst hj
      exact ⟨Q.encX (X j), rfl, rfl, (hX j hjn).1⟩
    · intro x hxm
      obtain ⟨i, hi, rfl⟩ := List.mem_map.1 hxm
      exact (hX i (List.mem_range.1 hi)).2
end
set_option maxRecDepth 100000 in
theorem lifted (os : Os) (started : os.Started) (H : Type) (enc : TypeId × Value → H) :
    ReturnsInHanded {} Try.checked os 5 .any (Rows.sweepReachSpec.pre6 enc Try.prog Try.f5 Rows.sweepReachRow.domain false) (Rows.sweepReachSpec.post enc Try.prog Try.f5 false true false false) := by
  refine returnsInHanded_of_change_sized (C := Try.checked) own started (by kernel_rfl) Try.func5
    (ChangeSpec.witness6 (enc := enc) (C := Try.checked) false ⟨#[], #[.slice none 0 0, .string ByteArray.empty], []⟩ 8 (by kernel_rfl) (by kernel_rfl) (by kernel_rfl) (by kernel_rfl)) ?_
  intro W base args ds gs before hval0 hW hcnd hsz0 _
  have hval : ∀ (j : Nat) t v, Try.f5.params[j]? = some t → args[j]? = some v → Value.okWide Try.prog W .any base t v := hval0
  have hW' := hW
  obtain ⟨p, q, hA0, hV, rfl, hfz, hnd⟩ := hW
  have hA : DataW.TrodAll enc Try.prog W 0 (fun _ => true) true Try.f5.params.toList args.toList ds p := hA0
  rw [Try.params5] at hA hval
  obtain ⟨v0, vs0, d0, ds0, p0, q0, hargs, rfl, rfl, h0, r0⟩ := trodAll_cons hA
  obtain ⟨v1, vs1, d1, ds1, p1, q1, rfl, rfl, rfl, h1, r1⟩ := trodAll_cons r0
  obtain ⟨rfl, rfl, rfl⟩ := trodAll_nil r1
  obtain rfl : args = #[v0, v1] := by cases args; simp_all
  obtain ⟨rfl, rfl⟩ := trodVars_none hV
  have h0k := h0
  have hlt : ∀ x ∈ p0, x.block < W.heap.size := fun x hx => by simpa using hW'.lt x (by simp [hx])
  obtain ⟨A0, c0, l0, rfl, hC0, hD0, hM0⟩ := open_found (hval 0 55 v0 rfl rfl) h0
  obtain ⟨a1, rfl, rfl, rfl, y1⟩ := open_string Try.underlying9 (hval 1 9 v1 rfl rfl) h1
  refine (Q.reach_law A0 c0 l0 a1 W hC0 hD0 (by unfold maxLen; exact y1)).mono fun e W' ⟨he, hb⟩ => ?_
  subst he
  exact ⟨_, rfl, _, _, _, [], _, [], hW', trodAll_mk1 (shut_bool Try.underlying4 _), (trodAll_cons_mk (Below.trod laidOut (by kernel_rfl) (of_decide_eq_true (by kernel_rfl)) h0k hb hlt) (trodAll_cons_mk (shut_string Try.underlying9 y1) trodAll_mk0)), rfl, hb.frame _, fun h => by cases h⟩
theorem over : Rows.sweepReachRow.holds Try.pinned (OpenSpec.ofChange Rows.sweepReachSpec) :=
  OpenClaim.holds_of_wide 5 Try.f5 rfl rfl rfl rfl rfl rfl rfl ⟨rfl, rfl, rfl, rfl, rfl⟩ rfl rfl rfl rfl rfl (by kernel_rfl) Try.func5 (by kernel_rfl)
    (of_decide_eq_true (by kernel_rfl)) (by unfold Func.isWrapper; first | (rw [if_pos (by decide +kernel)]; kernel_rfl) | (rw [if_neg (by decide +kernel)]; exact ⟨rfl, rfl⟩))
    (fun os started H enc _ => lifted os started H enc)
theorem proved : Rows.SweepReachSaid := over
#print axioms proved
end Go.Proofs.Ytoiedcnhojkpiaa.sweepReach
namespace Go.Proofs.Ytoiedcnhojkpiaa
/-- The row, under a short name, for the claim. -/
theorem sweepReach_holds : Rows.SweepReachSaid := sweepReach.proved
end Go.Proofs.Ytoiedcnhojkpiaa
