/- SweepHalves: for every list of items, every two lists of ids and packs, and every percentage the law returns true; what came in reads behind as it read before. Every input, no condition. -/
import Derived.Test.YtoiedcnhojkpiaaMS
import Derived.Test.YtoiedcnhojkpiaaRows
import Derived.WalkKit
import Derived.ProofKit
import Derived.OpenShut
import Derived.ShutString
import Derived.ChangeOld
import Derived.Below
import Derived.SizedLaws
import Derived.Deep.SlicePairs
import Derived.Deep.Slices
import Derived.SliceStrings
namespace Go.Proofs.Ytoiedcnhojkpiaa.sweepHalves
open Go.ChangeShapes Go.WideShapes Go.ChangeAt Go.RowKit Go.Deep
open Go.Proofs.YtoiedcnhojkpiaaW.PrintWords
theorem own : ownKnob Try.prog.godebug = none := by kernel_rfl
theorem laidOut : laidOutB Try.prog = true := by kernel_rfl
theorem len6 {α : Type} : ∀ (l : List α), l.length = 6 → ∃ a0 a1 a2 a3 a4 a5, l = [a0, a1, a2, a3, a4, a5]
  | [a0, a1, a2, a3, a4, a5], _ => ⟨a0, a1, a2, a3, a4, a5, rfl⟩
theorem len2 {α : Type} : ∀ (l : List α), l.length = 2 → ∃ a0 a1, l = [a0, a1]
  | [a0, a1], _ => ⟨a0, a1, rfl⟩
section
variable {H : Type} {enc : TypeId × Value → H} {w : World} {base : Nat} {spare : Nat → Bool} {held : Bool}
theorem some_of {α : Type} {xs : List α} {n i : Nat} (h : xs.length = n) (hi : i < n) : ∃ y, xs[i]? = some y := ⟨xs[i], List.getElem?_eq_getElem (by omega)⟩
/-- A list of ids that came in. -/
theorem ids_of {n : Nat} {v : Value} {y : DataW H × List MemPlace} (h : DataW.trod enc Try.prog w base spare held n 23 [v] = some y) :
    ∃ (A : Option Addr) (m c : Nat) (ids : List ByteArray), v = .slice A m c ∧ Kd.C Kd.string w A m ids ∧ m ≤ c ∧ ∀ s ∈ ids, s.size ≤ maxLen := by
  have c9 : Try.prog.cellsOf 9 = 1 := by kernel_rfl
  rcases open_strings Try.underlying23 Try.underlying9 c9 h with ⟨hc, _⟩ | ⟨a, len, cap, ss, hc, _, hl, hm, hss, _, hcell, hsz⟩
  · simp only [List.cons.injEq, and_true] at hc
    exact ⟨none, 0, 0, [], hc, Kd.C_nil Kd.string w, Nat.le_refl _, by simp⟩
  · simp only [List.cons.injEq, and_true] at hc
    have hls : len ≤ ss.length := by rw [hss]; split <;> omega
    refine ⟨some a, len, cap, ss.take len, hc, ⟨by rw [List.length_take]; omega, by unfold maxLen at hm; omega, fun _ => ⟨a, rfl, fun j q hj => ⟨[.string q], rfl, rfl, fun i u hu => ?_⟩⟩⟩, hl, fun s hs => hsz s (List.mem_of_mem_take hs)⟩
    have hjl := (List.getElem?_eq_some_iff.1 hj).1
    rw [List.length_take] at hjl
    match i, hu with
    | 0, hu =>
      simp only [List.getElem?_cons_zero, Option.some.injEq] at hu
      subst hu
      have h1 := hcell j (by omega)
      rw [List.getElem?_take, if_pos (by omega)] at hj
      rw [List.getD_eq_getElem?_getD, hj] at h1
      show w.cell? (a.add (j * 1 + 0)) = _
      rw [Nat.mul_one, Nat.add_zero]
      exact h1
/-- One item. -/
theorem el_item {n : Nat} {cs : List Value} {y : DataW H × List MemPlace} (h : DataW.trod enc Try.prog w base spare held n 52 cs = some y) : ∃ x : Q.S52, cs = Q.enc52 x := by
  have c52 : Try.prog.cellsOf 52 = 6 := by kernel_rfl
  have c50 : Try.prog.cellsOf 50 = 5 := by kernel_rfl
  have c9 : Try.prog.cellsOf 9 = 1 := by kernel_rfl
  have c3 : Try.prog.cellsOf 3 = 1 := by kernel_rfl
  obtain ⟨xs, m, _, _, hl, hxl, hf⟩ := DataW.trod_struct Try.underlying52 h
  rw [c52] at hl
  obtain ⟨v0, v1, v2, v3, v4, v5, rfl⟩ := len6 cs hl
  obtain ⟨y0, hy0⟩ := some_of (i := 0) hxl (by decide)
  obtain ⟨y1, hy1⟩ := some_of (i := 1) hxl (by decide)
  have h0 : DataW.trod enc Try.prog w base spare held m 9 (([v0, v1, v2, v3, v4, v5].drop 0).take (Try.prog.cellsOf 9)) = some y0 := (hf 0 _ rfl).trans hy0
  have h1 : DataW.trod enc Try.prog w base spare held m 50 (([v0, v1, v2, v3, v4, v5].drop 1).take (Try.prog.cellsOf 50)) = some y1 := (hf 1 _ rfl).trans hy1
  rw [c9] at h0
  rw [c50] at h1
  obtain ⟨zs, m2, _, _, _, hzl, hg⟩ := DataW.trod_struct Try.underlying50 h1
  have st : ∀ {k : Nat} {v : Value} {y : DataW H × List MemPlace}, DataW.trod enc Try.prog w base spare held k 9 [v] = some y → ∃ s : ByteArray, v = .string s := fun {k v y} ht => by
    obtain ⟨s, e, _⟩ := DataW.trod_string Try.underlying9 ht
    simp only [List.cons.injEq, and_true] at e
    exact ⟨s, e⟩
  have it : ∀ {k : Nat} {v : Value} {y : DataW H × List MemPlace}, DataW.trod enc Try.prog w base spare held k 3 [v] = some y → ∃ z : Int, v = .int .i64 z := fun {k v y} ht => by
    obtain ⟨s, e, _⟩ := DataW.trod_int Try.underlying3 ht
    simp only [List.cons.injEq, and_true] at e
    exact ⟨s, e⟩
  obtain ⟨z0, hz0⟩ := some_of (i := 0) hzl (by decide)
  obtain ⟨z1, hz1⟩ := some_of (i := 1) hzl (by decide)
  obtain ⟨z2, hz2⟩ := some_of (i := 2) hzl (by decide)
  obtain ⟨z3, hz3⟩ := some_of (i := 3) hzl (by decide)
  obtain ⟨z4, hz4⟩ := some_of (i := 4) hzl (by decide)
  have g0 : DataW.trod enc Try.prog w base spare held m2 9 (([v1, v2, v3, v4, v5].drop 0).take (Try.prog.cellsOf 9)) = some z0 := (hg 0 _ rfl).trans hz0
  have g1 : DataW.trod enc Try.prog w base spare held m2 3 (([v1, v2, v3, v4, v5].drop 1).take (Try.prog.cellsOf 3)) = some z1 := (hg 1 _ rfl).trans hz1
  have g2 : DataW.trod enc Try.prog w base spare held m2 3 (([v1, v2, v3, v4, v5].drop 2).take (Try.prog.cellsOf 3)) = some z2 := (hg 2 _ rfl).trans hz2
  have g3 : DataW.trod enc Try.prog w base spare held m2 3 (([v1, v2, v3, v4, v5].drop 3).take (Try.prog.cellsOf 3)) = some z3 := (hg 3 _ rfl).trans hz3
  have g4 : DataW.trod enc Try.prog w base spare held m2 3 (([v1, v2, v3, v4, v5].drop 4).take (Try.prog.cellsOf 3)) = some z4 := (hg 4 _ rfl).trans hz4
  rw [c9] at g0
  rw [c3] at g1 g2 g3 g4
  obtain ⟨s0, rfl⟩ := st h0
  obtain ⟨s1, rfl⟩ := st g0
  obtain ⟨i2, rfl⟩ := it g1
  obtain ⟨i3, rfl⟩ := it g2
  obtain ⟨i4, rfl⟩ := it g3
  obtain ⟨i5, rfl⟩ := it g4
  exact ⟨⟨s0, ⟨s1, i2, i3, i4, i5⟩⟩, rfl⟩
set_option maxRecDepth 100000 in
/-- A list of items that came in. -/
theorem open_items {v : Value} {d : DataW H} {p : List MemPlace} {r : Reach} {b0 : Nat} (hv : Value.okWide Try.prog w r b0 22 v) (h : DataW.Trod enc Try.prog w base spare held 22 v d p) :
    ∃ (A : Option Addr) (c : Nat) (l : List Q.S52), v = .slice A l.length c ∧ Kd.C Q.k52 w A l.length l := by
  obtain ⟨A, n, c, rfl⟩ := okWide_slice Try.underlying22 hv
  obtain ⟨fuel, hf⟩ := h
  have c52 : Try.prog.cellsOf 52 = 6 := by kernel_rfl
  rcases open_slice Try.underlying22 hf with ⟨hc, hx⟩ | ⟨a, len, cap, m, k, D, P, hcs, _, hl, hm, hmm, hx, hcell⟩
  · simp only [Value.cells, List.cons.injEq, Value.slice.injEq, and_true] at hc
    obtain ⟨rfl, rfl, rfl⟩ := hc
    exact ⟨none, 0, [], rfl, Kd.C_nil Q.k52 w⟩
  · simp only [Value.cells, List.cons.injEq, Value.slice.injEq, and_true] at hcs
    obtain ⟨rfl, rfl, rfl⟩ := hcs
    have hlm : n ≤ m := by rw [hmm]; split <;> omega
    have each : ∀ i, i < n → ∃ x : Q.S52, (∀ j u, (Q.enc52 x)[j]? = some u → w.cell? (a.add (i * 6 + j)) = some u) := by
      intro i hi
      obtain ⟨cs, hc, ht⟩ := hcell i (by omega)
      obtain ⟨x, rfl⟩ := el_item ht
      refine ⟨x, fun j u hu => ?_⟩
      rw [c52] at hc
      obtain ⟨_, _, hat⟩ := World.cells?_some hc
      have hj : j < 6 := by have := (List.getElem?_eq_some_iff.1 hu).1; simpa [Q.enc52] using this
      rw [← Go.Deep.add_add, hat j hj, hu]
    obtain ⟨X, hX⟩ : ∃ X : Nat → Q.S52, ∀ i, i < n → (∀ j u, (Q.enc52 (X i))[j]? = some u → w.cell? (a.add (i * 6 + j)) = some u) := ⟨fun i => if hi : i < n then (each i hi).choose else Q.z52, fun i hi => by simp only [dif_pos hi]; exact (each i hi).choose_spec⟩
    have hln : ((List.range n).map X).length = n := by rw [List.length_map, List.length_range]
    refine ⟨some a, c, (List.range n).map X, by rw [hln], ?_⟩
    rw [hln]
    refine ⟨hln, by unfold maxLen at hm; omega, fun _ => ⟨a, rfl, fun j q hj => ?_⟩⟩
    have hjn : j < n := by
      have := (List.getElem?_eq_some_iff.1 hj).1
      omega
    rw [List.getElem?_map, List.getElem?_range hjn] at hj
    simp only [Option.map_some, Option.some.injEq] at hj
    subst hj
    exact ⟨Q.enc52 (X j), rfl, Q.k52_mk _ _, hX j hjn⟩
set_option maxRecDepth 100000 in
/-- Two lists of texts that came in, as an array. -/
theorem open_two {v : Value} {d : DataW H} {p : List MemPlace} {r : Reach} {b0 : Nat} (hv : Value.okWide Try.prog w r b0 24 v) (h : DataW.Trod enc Try.prog w base spare held 24 v d p) :
    ∃ (A B : Option Addr) (c e : Nat) (l m : List ByteArray), v = .agg #[.slice A l.length c, .slice B m.length e] ∧ (l.length ≤ c ∧ Kd.C Kd.string w A l.length l ∧ ∀ s ∈ l, s.size ≤ maxLen) ∧ (m.length ≤ e ∧ Kd.C Kd.string w B m.length m ∧ ∀ s ∈ m, s.size ≤ maxLen) := by
  obtain ⟨fuel, hf⟩ := h
  have c23 : Try.prog.cellsOf 23 = 1 := by kernel_rfl
  have c24 : Try.prog.cellsOf 24 = 2 := by kernel_rfl
  obtain ⟨cs, rfl⟩ : ∃ cs, v = .agg cs := by
    simp only [Value.okWide, Try.underlying24] at hv
    obtain ⟨cs, h1, _⟩ := hv
    exact ⟨cs, h1⟩
  obtain ⟨xs, m, _, _, hl, hxl, hg⟩ := DataW.trod_array Try.underlying24 hf
  rw [c24] at hl
  simp only [Value.cells] at hl hg
  obtain ⟨v0, v1, hv01⟩ := len2 _ hl
  rw [hv01, c23] at hg
  obtain ⟨y0, hy0⟩ := some_of (i := 0) hxl (by decide)
  obtain ⟨y1, hy1⟩ := some_of (i := 1) hxl (by decide)
  have g0 : DataW.trod enc Try.prog w base spare held m 23 [v0] = some y0 := (hg 0 (by decide)).trans hy0
  have g1 : DataW.trod enc Try.prog w base spare held m 23 [v1] = some y1 := (hg 1 (by decide)).trans hy1
  obtain ⟨A, k, c, ids, rfl, hC, hkc, hsz⟩ := ids_of g0
  obtain rfl : ids.length = k := hC.1
  obtain ⟨B, k2, c2, ids2, rfl, hC2, hkc2, hsz2⟩ := ids_of g1
  obtain rfl : ids2.length = k2 := hC2.1
  refine ⟨A, B, c, c2, ids, ids2, ?_, ⟨hkc, hC, hsz⟩, ⟨hkc2, hC2, hsz2⟩⟩
  cases cs with
  | mk l => simp at hv01; subst hv01; rfl
end
set_option maxRecDepth 100000 in
theorem lifted (os : Os) (started : os.Started) (H : Type) (enc : TypeId × Value → H) :
    ReturnsInHanded {} Try.checked os 4 .any (Rows.sweepHalvesSpec.pre6 enc Try.prog Try.f4 Rows.sweepHalvesRow.domain false) (Rows.sweepHalvesSpec.post enc Try.prog Try.f4 false true false false) := by
  refine returnsInHanded_of_change_sized (C := Try.checked) own started (by kernel_rfl) Try.func4
    (ChangeSpec.witness6 (enc := enc) (C := Try.checked) false ⟨#[], #[.slice none 0 0, .agg #[.slice none 0 0, .slice none 0 0], .int .i64 0], []⟩ 8 (by kernel_rfl) (by kernel_rfl) (by kernel_rfl) (by kernel_rfl)) ?_
  intro W base args ds gs before hval0 hW hcnd hsz0 _
  have hval : ∀ (j : Nat) t v, Try.f4.params[j]? = some t → args[j]? = some v → Value.okWide Try.prog W .any base t v := hval0
  have hW' := hW
  obtain ⟨p, q, hA0, hV, rfl, hfz, hnd⟩ := hW
  have hA : DataW.TrodAll enc Try.prog W 0 (fun _ => true) true Try.f4.params.toList args.toList ds p := hA0
  rw [Try.params4] at hA hval
  obtain ⟨v0, vs0, d0, ds0, p0, q0, hargs, rfl, rfl, h0, r0⟩ := trodAll_cons hA
  obtain ⟨v1, vs1, d1, ds1, p1, q1, rfl, rfl, rfl, h1, r1⟩ := trodAll_cons r0
  obtain ⟨v2, vs2, d2, ds2, p2, q2, rfl, rfl, rfl, h2, r2⟩ := trodAll_cons r1
  obtain ⟨rfl, rfl, rfl⟩ := trodAll_nil r2
  obtain rfl : args = #[v0, v1, v2] := by cases args; simp_all
  obtain ⟨rfl, rfl⟩ := trodVars_none hV
  have h0k := h0
  have h1k := h1
  have hlt0 : ∀ x ∈ p0, x.block < W.heap.size := fun x hx => by simpa using hW'.lt x (by simp [hx])
  have hlt1 : ∀ x ∈ p1, x.block < W.heap.size := fun x hx => by simpa using hW'.lt x (by simp [hx])
  obtain ⟨A0, c0, l0, rfl, hC0⟩ := open_items (hval 0 22 v0 rfl rfl) h0
  obtain ⟨A1, A2, c1, c2, l1, l2, rfl, ⟨hc1, hC1, hs1⟩, ⟨hc2, hC2, hs2⟩⟩ := open_two (hval 1 24 v1 rfl rfl) h1
  obtain ⟨a2, rfl, rfl, rfl, w2⟩ := open_int Try.underlying3 (hval 2 3 v2 rfl rfl) h2
  refine (Q.halves_law A0 A1 A2 c0 c1 c2 l0 l1 l2 a2 W hC0 hC1 hc1 hC2 hc2 hs1 hs2).mono fun e W' ⟨he, hb⟩ => ?_
  subst he
  exact ⟨_, rfl, _, _, _, [], _, [], hW', trodAll_mk1 (shut_bool Try.underlying4 _), (trodAll_cons_mk (Below.trod laidOut (by kernel_rfl) (of_decide_eq_true (by kernel_rfl)) h0k hb hlt0) (trodAll_cons_mk (Below.trod laidOut (by kernel_rfl) (of_decide_eq_true (by kernel_rfl)) h1k hb hlt1) (trodAll_cons_mk (shut_int Try.underlying3 w2) trodAll_mk0))), rfl, hb.frame _, fun h => by cases h⟩
theorem over : Rows.sweepHalvesRow.holds Try.pinned (OpenSpec.ofChange Rows.sweepHalvesSpec) :=
  OpenClaim.holds_of_wide 4 Try.f4 rfl rfl rfl rfl rfl rfl rfl ⟨rfl, rfl, rfl, rfl, rfl⟩ rfl rfl rfl rfl rfl (by kernel_rfl) Try.func4 (by kernel_rfl)
    (of_decide_eq_true (by kernel_rfl)) (by unfold Func.isWrapper; first | (rw [if_pos (by decide +kernel)]; kernel_rfl) | (rw [if_neg (by decide +kernel)]; exact ⟨rfl, rfl⟩))
    (fun os started H enc _ => lifted os started H enc)
theorem proved : Rows.SweepHalvesSaid := over
#print axioms proved
end Go.Proofs.Ytoiedcnhojkpiaa.sweepHalves
namespace Go.Proofs.Ytoiedcnhojkpiaa
/-- The row, under a short name, for the claim. -/
theorem sweepHalves_holds : Rows.SweepHalvesSaid := sweepHalves.proved
end Go.Proofs.Ytoiedcnhojkpiaa
