/- MaintPlans: for every policy, every list of ids and every list of snapshots the law returns true; the three read behind as they read before. Of the package-level variables the table of the months is read, as the program text lays it. -/
import Derived.Test.YtpdkgpmcmebefaaGreatDoorMM
import Derived.Test.YtpdkgpmcmebefaaGreatDoorRows
import Derived.Test.YtpdkgpmcmebefaaGreatDoorCards
import Derived.Test.YtpdkgpmcmebefaaGreatDoorTie
import Derived.ProofKit
import Derived.LaidMore
import Derived.OpenShut
import Derived.Stop.Joined
import Derived.SizedLaws
import Derived.Deep.SlicePairs
import Derived.Deep.Slices
import Derived.SliceStrings
import Derived.Lib.LaidU8
import Derived.Lay
import Derived.LaidOnce
import Derived.SevenTiedAt
namespace Go.Proofs.YtpdkgpmcmebefaaGreatDoor.maintPlans
open Go.ChangeShapes Go.WideShapes Go.ChangeAt Go.RowKit Go.Deep
open Go.Proofs.YtpdkgpmcmebefaaGreatDoorW.PrintWords
theorem own : ownKnob Tryz.prog.godebug = none := by kernel_rfl
theorem laidOut : laidOutB Tryz.prog = true := by kernel_rfl
theorem gDays : Tryz.prog.globalNamed "garret/civil.days" = some 1 := by kernel_rfl
theorem u155 : Tryz.prog.underlying 155 = some (.array 13 3) := by kernel_rfl
theorem tDays : (Tryz.prog.globals[1]?).map (·.type) = some 155 := by kernel_rfl
/-- What the condition gives the walks: the months' days. -/
theorem months_of {W : World} (h : laidMetH Tryz.prog Rows.maintPlansRow.laid W) : Q.MonthT W := by
 rw [MakeChecks.laidMetH_plain _ _ _ (by kernel_rfl)] at h
 obtain ⟨g, t, cs, fuel, p, hg, ht, hv, hd⟩ := Lib.laidMet.reads (n := "garret/civil.days") (d := Rows.laid_garret_civil_days) h (by simp [Rows.maintPlansRow])
 obtain rfl := Option.some.inj (gDays.symm.trans hg)
 obtain rfl := Option.some.inj (tDays.symm.trans ht)
 have c3 : Tryz.prog.cellsOf 3 = 1 := by kernel_rfl
 obtain ⟨xs, m, _, hx, _, hlen, hel⟩ := DataW.trod_array u155 hd
 simp only [Prod.mk.injEq] at hx
 have hx1 := hx.1
 unfold Rows.laid_garret_civil_days at hx1
 injection hx1 with hx1
 have each : ∀ (i : Nat) (z : Int), i < 13 → (xs.map (·.1))[i]? = some (.lit (.int .i64 z)) → W.cell? ⟨1, i, none⟩ = some (.int .i64 z) := by
  intro i z hi hs
  have h1 := hel i hi
  rw [c3, Nat.mul_one] at h1
  rw [List.getElem?_map] at hs
  obtain ⟨y, hy, hys⟩ := Option.map_eq_some_iff.1 hs
  rw [hy] at h1
  obtain ⟨z', hs', hys', _⟩ := DataW.trod_int Tryz.underlying3 h1
  rw [hys'] at hys
  simp only [DataW.lit.injEq, Lit.int.injEq] at hys
  obtain rfl := hys.2
  rw [World.var?_cell hg hv i]
  have h2 : cs.toList[i]? = some (.int .i64 z') := by
   have h3 := congrArg (·[0]?) hs'
   simpa [List.getElem?_take, List.getElem?_drop] using h3
  simpa using h2
 rw [← hx1] at each
 exact ⟨each 1 31 (by decide) rfl, each 2 28 (by decide) rfl, each 3 31 (by decide) rfl, each 4 30 (by decide) rfl, each 5 31 (by decide) rfl, each 6 30 (by decide) rfl, each 7 31 (by decide) rfl, each 8 31 (by decide) rfl, each 9 30 (by decide) rfl, each 10 31 (by decide) rfl, each 11 30 (by decide) rfl, each 12 31 (by decide) rfl⟩
theorem len6 {α : Type} : ∀ (l : List α), l.length = 6 → ∃ a0 a1 a2 a3 a4 a5, l = [a0, a1, a2, a3, a4, a5]
 | [a0, a1, a2, a3, a4, a5], _ => ⟨a0, a1, a2, a3, a4, a5, rfl⟩
theorem len8 {α : Type} : ∀ (l : List α), l.length = 8 → ∃ a0 a1 a2 a3 a4 a5 a6 a7, l = [a0, a1, a2, a3, a4, a5, a6, a7]
 | [a0, a1, a2, a3, a4, a5, a6, a7], _ => ⟨a0, a1, a2, a3, a4, a5, a6, a7, rfl⟩
section
variable {H : Type} {enc : TypeId × Value → H} {w : World} {base : Nat} {spare : Nat → Bool} {held : Bool}
theorem some_of {α : Type} {xs : List α} {n i : Nat} (h : xs.length = n) (hi : i < n) : ∃ y, xs[i]? = some y := ⟨xs[i], List.getElem?_eq_getElem (by omega)⟩
/-- A list of ids that came in. -/
theorem ids_of {n : Nat} {v : Value} {y : DataW H × List MemPlace} (h : DataW.trod enc Tryz.prog w base spare held n 22 [v] = some y) :
  ∃ (A : Option Addr) (m c : Nat) (ids : List ByteArray), v = .slice A m c ∧ Kd.C Kd.string w A m ids ∧ m ≤ c ∧ ∀ s ∈ ids, s.size ≤ maxLen := by
 have c9 : Tryz.prog.cellsOf 9 = 1 := by kernel_rfl
 rcases open_strings Tryz.underlying22 Tryz.underlying9 c9 h with ⟨hc, _⟩ | ⟨a, len, cap, ss, hc, _, hl, hm, hss, _, hcell, hsz⟩
 ·simp only [List.cons.injEq, and_true] at hc
  exact ⟨none, 0, 0, [], hc, Kd.C_nil Kd.string w, Nat.le_refl _, by simp⟩
 ·simp only [List.cons.injEq, and_true] at hc
  have hls : len ≤ ss.length := by rw [hss]; split <;> omega
  refine ⟨some a, len, cap, ss.take len, hc, ⟨by rw [List.length_take]; omega, by unfold maxLen at hm; omega, fun _ => ⟨a, rfl, fun j q hj => ⟨[.string q], rfl, rfl, fun i u hu => ?_⟩⟩⟩, hl, fun s hs => hsz s (List.mem_of_mem_take hs)⟩
  have hjl := (List.getElem?_eq_some_iff.1 hj).1
  rw [List.length_take] at hjl
  match i, hu with
  | 0, hu =>
   simp only [List.getElem?_cons_zero, Option.some.injEq] at hu
   subst hu
   have h1 := hcell j (by omega)
   rw [List.getElem?_take, if_pos (by omega)] at hj
   rw [List.getD_eq_getElem?_getD, hj] at h1
   show w.cell? (a.add (j * 1 + 0)) = _
   rw [Nat.mul_one, Nat.add_zero]
   exact h1
theorem st {k : Nat} {v : Value} {y : DataW H × List MemPlace} (ht : DataW.trod enc Tryz.prog w base spare held k 9 [v] = some y) : ∃ s : ByteArray, v = .string s ∧ s.size ≤ maxLen := by
 obtain ⟨s, e, _, hh⟩ := DataW.trod_string Tryz.underlying9 ht
 simp only [List.cons.injEq, and_true] at e
 exact ⟨s, e, hh⟩
theorem it {k : Nat} {v : Value} {y : DataW H × List MemPlace} (ht : DataW.trod enc Tryz.prog w base spare held k 3 [v] = some y) : ∃ z : Int, v = .int .i64 z := by
 obtain ⟨s, e, _⟩ := DataW.trod_int Tryz.underlying3 ht
 simp only [List.cons.injEq, and_true] at e
 exact ⟨s, e⟩
/-- What a snapshot's cells are, when it came in. -/
def Snap (w : World) (x : Q.S28) (cs : List Value) : Prop := cs.length = 6 ∧ Q.k28.K w x cs ∧ x.f1.size ≤ maxLen ∧ ∀ q ∈ x.f3, q.size ≤ maxLen
set_option maxRecDepth 100000 in
/-- One snapshot. -/
theorem el_snap {n : Nat} {cs : List Value} {y : DataW H × List MemPlace} (h : DataW.trod enc Tryz.prog w base spare held n 28 cs = some y) : ∃ x : Q.S28, Snap w x cs := by
 have c28 : Tryz.prog.cellsOf 28 = 6 := by kernel_rfl
 have c22 : Tryz.prog.cellsOf 22 = 1 := by kernel_rfl
 have c9 : Tryz.prog.cellsOf 9 = 1 := by kernel_rfl
 have c3 : Tryz.prog.cellsOf 3 = 1 := by kernel_rfl
 obtain ⟨xs, m, _, _, hl, hxl, hf⟩ := DataW.trod_struct Tryz.underlying28 h
 rw [c28] at hl
 obtain ⟨v0, v1, v2, v3, v4, v5, rfl⟩ := len6 cs hl
 obtain ⟨y0, hy0⟩ := some_of (i := 0) hxl (by decide)
 have g0 : DataW.trod enc Tryz.prog w base spare held m 3 (([v0, v1, v2, v3, v4, v5].drop 0).take (Tryz.prog.cellsOf 3)) = some y0 := (hf 0 _ rfl).trans hy0
 obtain ⟨y1, hy1⟩ := some_of (i := 1) hxl (by decide)
 have g1 : DataW.trod enc Tryz.prog w base spare held m 9 (([v0, v1, v2, v3, v4, v5].drop 1).take (Tryz.prog.cellsOf 9)) = some y1 := (hf 1 _ rfl).trans hy1
 obtain ⟨y2, hy2⟩ := some_of (i := 2) hxl (by decide)
 have g2 : DataW.trod enc Tryz.prog w base spare held m 22 (([v0, v1, v2, v3, v4, v5].drop 2).take (Tryz.prog.cellsOf 22)) = some y2 := (hf 2 _ rfl).trans hy2
 obtain ⟨y3, hy3⟩ := some_of (i := 3) hxl (by decide)
 have g3 : DataW.trod enc Tryz.prog w base spare held m 22 (([v0, v1, v2, v3, v4, v5].drop 3).take (Tryz.prog.cellsOf 22)) = some y3 := (hf 3 _ rfl).trans hy3
 obtain ⟨y4, hy4⟩ := some_of (i := 4) hxl (by decide)
 have g4 : DataW.trod enc Tryz.prog w base spare held m 9 (([v0, v1, v2, v3, v4, v5].drop 4).take (Tryz.prog.cellsOf 9)) = some y4 := (hf 4 _ rfl).trans hy4
 obtain ⟨y5, hy5⟩ := some_of (i := 5) hxl (by decide)
 have g5 : DataW.trod enc Tryz.prog w base spare held m 9 (([v0, v1, v2, v3, v4, v5].drop 5).take (Tryz.prog.cellsOf 9)) = some y5 := (hf 5 _ rfl).trans hy5
 rw [c3] at g0
 rw [c9] at g1 g4 g5
 rw [c22] at g2 g3
 obtain ⟨i0, rfl⟩ := it g0
 obtain ⟨s1, rfl, hs1⟩ := st g1
 obtain ⟨A2, n2, e2, l2, rfl, hC2, hk2, _⟩ := ids_of g2
 obtain ⟨A3, n3, e3, l3, rfl, hC3, hk3, hz3⟩ := ids_of g3
 obtain ⟨s4, rfl, _⟩ := st g4
 obtain ⟨s5, rfl, _⟩ := st g5
 obtain rfl : l2.length = n2 := hC2.1
 obtain rfl : l3.length = n3 := hC3.1
 exact ⟨⟨i0, s1, l2, l3, s4, s5⟩, rfl, Q.k28_mk w ⟨i0, s1, l2, l3, s4, s5⟩ hk2 hC2 hk3 hC3, hs1, hz3⟩
set_option maxRecDepth 100000 in
/-- A list of snapshots that came in. -/
theorem open_snaps {v : Value} {d : DataW H} {p : List MemPlace} {r : Reach} {b0 : Nat} (hv : Value.okWide Tryz.prog w r b0 25 v) (h : DataW.Trod enc Tryz.prog w base spare held 25 v d p) :
  ∃ (A : Option Addr) (c : Nat) (l : List Q.S28), v = .slice A l.length c ∧ l.length ≤ c ∧ Kd.C Q.k28 w A l.length l ∧ ∀ x ∈ l, x.f1.size ≤ maxLen ∧ ∀ q ∈ x.f3, q.size ≤ maxLen := by
 obtain ⟨A, n, c, rfl⟩ := okWide_slice Tryz.underlying25 hv
 obtain ⟨fuel, hf⟩ := h
 have c28 : Tryz.prog.cellsOf 28 = 6 := by kernel_rfl
 rcases open_slice Tryz.underlying25 hf with ⟨hc, hx⟩ | ⟨a, len, cap, m, k, D, P, hcs, _, hl, hm, hmm, hx, hcell⟩
 ·simp only [Value.cells, List.cons.injEq, Value.slice.injEq, and_true] at hc
  obtain ⟨rfl, rfl, rfl⟩ := hc
  exact ⟨none, 0, [], rfl, Nat.le_refl _, Kd.C_nil Q.k28 w, by simp⟩
 ·simp only [Value.cells, List.cons.injEq, Value.slice.injEq, and_true] at hcs
  obtain ⟨rfl, rfl, rfl⟩ := hcs
  have hlm : n ≤ m := by rw [hmm]; split <;> omega
  have each : ∀ i, i < n → ∃ x : Q.S28, ∃ cs : List Value, Snap w x cs ∧ ∀ j u, cs[j]? = some u → w.cell? (a.add (i * 6 + j)) = some u := by
   intro i hi
   obtain ⟨cs, hc, ht⟩ := hcell i (by omega)
   obtain ⟨x, hR⟩ := el_snap ht
   refine ⟨x, cs, hR, fun j u hu => ?_⟩
   rw [c28] at hc
   obtain ⟨_, _, hat⟩ := World.cells?_some hc
   have hj : j < 6 := by have := (List.getElem?_eq_some_iff.1 hu).1; rwa [hR.1] at this
   rw [← Go.Deep.add_add, hat j hj, hu]
  obtain ⟨X, hX⟩ : ∃ X : Nat → Q.S28, ∀ i, i < n → ∃ cs : List Value, Snap w (X i) cs ∧ ∀ j u, cs[j]? = some u → w.cell? (a.add (i * 6 + j)) = some u := ⟨fun i => if hi : i < n then (each i hi).choose else Q.z28, fun i hi => by simp only [dif_pos hi]; exact (each i hi).choose_spec⟩
  have hln : ((List.range n).map X).length = n := by rw [List.length_map, List.length_range]
  refine ⟨some a, c, (List.range n).map X, by rw [hln], by rw [hln]; exact hl, ?_, ?_⟩
  ·rw [hln]
   refine ⟨hln, by unfold maxLen at hm; omega, fun _ => ⟨a, rfl, fun j q hj => ?_⟩⟩
   have hjn : j < n := by
    have := (List.getElem?_eq_some_iff.1 hj).1
    omega
   rw [List.getElem?_map, List.getElem?_range hjn] at hj
   simp only [Option.map_some, Option.some.injEq] at hj
   subst hj
   obtain ⟨cs, h1, h2⟩ := hX j hjn
   exact ⟨cs, h1.1, h1.2.1, h2⟩
  ·intro x hxm
   obtain ⟨i, hi, rfl⟩ := List.mem_map.1 hxm
   obtain ⟨cs, h1, _⟩ := hX i (List.mem_range.1 hi)
   exact h1.2.2
set_option maxRecDepth 100000 in
/-- A list of ids that came in, as an argument. -/
theorem open_ids {v : Value} {d : DataW H} {p : List MemPlace} (hb : v.cells.toList = [v]) (h : DataW.Trod enc Tryz.prog w base spare held 22 v d p) :
  ∃ (A : Option Addr) (c : Nat) (l : List ByteArray), v = .slice A l.length c ∧ l.length ≤ c ∧ Kd.C Kd.string w A l.length l := by
 obtain ⟨fuel, hf⟩ := h
 rw [hb] at hf
 obtain ⟨A, m, c, l, rfl, hC, hmc, _⟩ := ids_of hf
 obtain rfl : l.length = m := hC.1
 exact ⟨A, c, l, rfl, hmc, hC⟩
set_option maxRecDepth 100000 in
/-- A policy that came in. -/
theorem open_pol {v : Value} {d : DataW H} {p : List MemPlace} {r : Reach} {b0 : Nat} (hv : Value.okWide Tryz.prog w r b0 24 v) (h : DataW.Trod enc Tryz.prog w base spare held 24 v d p) :
  ∃ (q : Q.Pol) (A : Option Addr) (c : Nat), v = Q.aggP q A q.tags.length c ∧ q.tags.length ≤ c ∧ Kd.C Kd.string w A q.tags.length q.tags ∧ ∀ s ∈ q.tags, s.size ≤ maxLen := by
 obtain ⟨cs, rfl⟩ : ∃ cs, v = .agg cs := by
  simp only [Value.okWide, Tryz.underlying24] at hv
  obtain ⟨cs, h1, _⟩ := hv
  exact ⟨cs, h1⟩
 obtain ⟨fuel, hf0⟩ := h
 have c24 : Tryz.prog.cellsOf 24 = 8 := by kernel_rfl
 have c22 : Tryz.prog.cellsOf 22 = 1 := by kernel_rfl
 have c3 : Tryz.prog.cellsOf 3 = 1 := by kernel_rfl
 obtain ⟨xs, m, _, _, hl, hxl, hf⟩ := DataW.trod_struct Tryz.underlying24 hf0
 rw [c24] at hl
 simp only [Value.cells] at hl hf
 obtain ⟨v0, v1, v2, v3, v4, v5, v6, v7, hv8⟩ := len8 _ hl
 rw [hv8] at hf
 obtain ⟨y0, hy0⟩ := some_of (i := 0) hxl (by decide)
 have g0 : DataW.trod enc Tryz.prog w base spare held m 3 (([v0, v1, v2, v3, v4, v5, v6, v7].drop 0).take (Tryz.prog.cellsOf 3)) = some y0 := (hf 0 _ rfl).trans hy0
 obtain ⟨y1, hy1⟩ := some_of (i := 1) hxl (by decide)
 have g1 : DataW.trod enc Tryz.prog w base spare held m 3 (([v0, v1, v2, v3, v4, v5, v6, v7].drop 1).take (Tryz.prog.cellsOf 3)) = some y1 := (hf 1 _ rfl).trans hy1
 obtain ⟨y2, hy2⟩ := some_of (i := 2) hxl (by decide)
 have g2 : DataW.trod enc Tryz.prog w base spare held m 3 (([v0, v1, v2, v3, v4, v5, v6, v7].drop 2).take (Tryz.prog.cellsOf 3)) = some y2 := (hf 2 _ rfl).trans hy2
 obtain ⟨y3, hy3⟩ := some_of (i := 3) hxl (by decide)
 have g3 : DataW.trod enc Tryz.prog w base spare held m 3 (([v0, v1, v2, v3, v4, v5, v6, v7].drop 3).take (Tryz.prog.cellsOf 3)) = some y3 := (hf 3 _ rfl).trans hy3
 obtain ⟨y4, hy4⟩ := some_of (i := 4) hxl (by decide)
 have g4 : DataW.trod enc Tryz.prog w base spare held m 3 (([v0, v1, v2, v3, v4, v5, v6, v7].drop 4).take (Tryz.prog.cellsOf 3)) = some y4 := (hf 4 _ rfl).trans hy4
 obtain ⟨y5, hy5⟩ := some_of (i := 5) hxl (by decide)
 have g5 : DataW.trod enc Tryz.prog w base spare held m 3 (([v0, v1, v2, v3, v4, v5, v6, v7].drop 5).take (Tryz.prog.cellsOf 3)) = some y5 := (hf 5 _ rfl).trans hy5
 obtain ⟨y6, hy6⟩ := some_of (i := 6) hxl (by decide)
 have g6 : DataW.trod enc Tryz.prog w base spare held m 3 (([v0, v1, v2, v3, v4, v5, v6, v7].drop 6).take (Tryz.prog.cellsOf 3)) = some y6 := (hf 6 _ rfl).trans hy6
 obtain ⟨y7, hy7⟩ := some_of (i := 7) hxl (by decide)
 have g7 : DataW.trod enc Tryz.prog w base spare held m 22 (([v0, v1, v2, v3, v4, v5, v6, v7].drop 7).take (Tryz.prog.cellsOf 22)) = some y7 := (hf 7 _ rfl).trans hy7
 rw [c3] at g0 g1 g2 g3 g4 g5 g6
 rw [c22] at g7
 obtain ⟨i0, rfl⟩ := it g0
 obtain ⟨i1, rfl⟩ := it g1
 obtain ⟨i2, rfl⟩ := it g2
 obtain ⟨i3, rfl⟩ := it g3
 obtain ⟨i4, rfl⟩ := it g4
 obtain ⟨i5, rfl⟩ := it g5
 obtain ⟨i6, rfl⟩ := it g6
 obtain ⟨A, k, c, tags, rfl, hC, hkc, hz⟩ := ids_of g7
 obtain rfl : tags.length = k := hC.1
 refine ⟨⟨i0, i1, i2, i3, i4, i5, i6, tags⟩, A, c, ?_, hkc, hC, hz⟩
 have : cs = #[.int .i64 i0, .int .i64 i1, .int .i64 i2, .int .i64 i3, .int .i64 i4, .int .i64 i5, .int .i64 i6, .slice A tags.length c] := by
  cases cs
  simp only at hv8
  rw [hv8]
 rw [this]
end
set_option maxRecDepth 100000 in
theorem lifted (os : Os) (started : os.Started) (H : Type) (enc : TypeId × Value → H) :
  ReturnsInHanded {} Tryz.checked os 3 .any (fun w args => (Rows.maintPlansSpec.pre enc Tryz.prog Tryz.f3 [] false w args ∧ laidMetH Tryz.prog Rows.maintPlansRow.laid w) ∧ sizedMet enc Tryz.prog Tryz.f3 (OpenSpec.ofChange Rows.maintPlansSpec) false w args)
   (Rows.maintPlansSpec.post enc Tryz.prog Tryz.f3 false true false false) := by
 refine returnsInHanded_of_change_and (C := Tryz.checked) (X := fun w _ => laidMetH Tryz.prog Rows.maintPlansRow.laid w) (fun _ _ _ hh h => h.of_heap hh) own started (by kernel_rfl) Tryz.func3
  (ChangeSpec.witness_shaped (enc := enc) (C := Tryz.checked) (os := os) (X := fun w _ => laidMetH Tryz.prog Rows.maintPlansRow.laid w) false (World.laidAll Tryz.prog os Rows.maintPlansRow.laid) #[.agg #[.int .i64 0, .int .i64 0, .int .i64 0, .int .i64 0, .int .i64 0, .int .i64 0, .int .i64 0, .slice none 0 0], .slice none 0 0, .slice none 0 0] 8 (World.laidAll_os _ _ _)
   (World.shaped_of_ZipB (by kernel_rfl) (by kernel_rfl)) (by kernel_rfl) (by kernel_rfl) (by kernel_rfl)
   (by rw [MakeChecks.laidMetH_plain _ _ _ (by kernel_rfl)]; exact laidMet_laidAll _ (by kernel_rfl) (by kernel_rfl))) ?_
 intro W base args ds gs before hval0 hW _ hsz0 hL _
 have hval : ∀ (j : Nat) t v, Tryz.f3.params[j]? = some t → args[j]? = some v → Value.okWide Tryz.prog W .any base t v := hval0
 have hW' := hW
 obtain ⟨p, q, hA0, hV, rfl, _, _⟩ := hW
 have hA : DataW.TrodAll enc Tryz.prog W 0 (fun _ => true) true Tryz.f3.params.toList args.toList ds p := hA0
 rw [Tryz.params3] at hA hval
 obtain ⟨v0, v1, v2, d0, d1, d2, p0, p1, p2, rfl, rfl, rfl, h0, h1, h2⟩ := trodAll_three hA
 obtain ⟨rfl, rfl⟩ := trodVars_none hV
 have hlt : ∀ x ∈ p0 ++ p1 ++ p2, x.block < W.heap.size := fun x hx => by simpa using hW'.lt x (by simpa using hx)
 have h0k := h0
 have h1k := h1
 have h2k := h2
 obtain ⟨A1, n1, c1', rfl⟩ := okWide_slice Tryz.underlying22 (hval 1 22 v1 rfl rfl)
 obtain ⟨q0, A0, c0, rfl, hc0, hC0, hz0⟩ := open_pol (hval 0 24 v0 rfl rfl) h0
 obtain ⟨A1, c1, l1, he1, hc1, hC1⟩ := open_ids (by simp [Value.cells]) h1
 obtain ⟨A2, c2, l2, rfl, hc2, hC2, hz2⟩ := open_snaps (hval 2 25 v2 rfl rfl) h2
 rw [he1] at hW' h1k ⊢
 simp only [List.append_nil] at hW'
 refine (Q.law_calls q0 A0 A2 A1 c0 c2 c1 l2 l1 W hC2 hc2 (months_of hL) hC0 hc0 hC1 hc1 hz2 hz0).mono fun e W' ⟨he, hb⟩ => ?_
 subst he
 exact ⟨_, rfl, _, _, _, [], _, [], hW', trodAll_mk1 (shut_bool Tryz.underlying4 _), trodAll_mk3 (Below.trod laidOut (by kernel_rfl) (of_decide_eq_true (by kernel_rfl)) h0k hb (fun x hx => hlt x (by simp [hx]))) (Below.trod laidOut (by kernel_rfl) (of_decide_eq_true (by kernel_rfl)) h1k hb (fun x hx => hlt x (by simp [hx]))) (Below.trod laidOut (by kernel_rfl) (of_decide_eq_true (by kernel_rfl)) h2k hb (fun x hx => hlt x (by simp [hx]))), rfl, hb.frame _, fun h => by cases h⟩
theorem holds : Rows.MaintPlansSaid :=
 OpenClaim.holds_of_wide 3 Tryz.f3 rfl rfl rfl rfl rfl rfl rfl ⟨rfl, rfl, rfl, rfl, rfl⟩ rfl rfl rfl rfl rfl (by kernel_rfl) Tryz.func3 (by kernel_rfl)
  (of_decide_eq_true (by kernel_rfl)) (by unfold Func.isWrapper; (rw [if_neg (by decide +kernel)]; exact ⟨rfl, rfl⟩))
  (fun os started H enc _ => lifted os started H enc)
theorem card_holds : Rows.MaintPlansCardSaid :=
 Claim7.holds_tied_plain_at .later [] [.data, .data, .pinned] true (true, "792eb84baf796814c1c4606eed06e0b938d78e91c5e1df6717f22f103b4dfee4") false holds (fun _ h => by cases h) (by kernel_rfl) (fun _ h => by cases h) maintPlans_row_tie rfl ⟨rfl, rfl⟩ (by kernel_rfl) rfl
  (fun f fn hf hfn => by
   obtain rfl : f = 3 := Option.some.inj ((show Tryz.prog.funcNamed "garret/garretlaw28.MaintPlans" = some 3 by kernel_rfl).symm.trans hf) |>.symm
   obtain rfl : fn = Tryz.f3 := (Option.some.inj (Tryz.func3.symm.trans hfn)).symm
   exact ⟨by kernel_rfl, fun j t ht => by
    rw [Tryz.params3] at ht
    have hm : t ∈ [24, 22, 25] := by simpa using Array.mem_of_getElem? ht
    have hall : ([24, 22, 25].all fun u => !Tryz.prog.wantsStandIn u) = true := by kernel_rfl
    exact (show Tryz.prog.wantsStandIn t = false by simpa using List.all_eq_true.1 hall t hm)⟩)
  (by kernel_rfl)
#print axioms card_holds
end Go.Proofs.YtpdkgpmcmebefaaGreatDoor.maintPlans
namespace Go.Proofs.YtpdkgpmcmebefaaGreatDoor
/-- The card, under a short name, for the claim. -/
theorem maintPlans_card_holds : Rows.MaintPlansCardSaid := maintPlans.card_holds
end Go.Proofs.YtpdkgpmcmebefaaGreatDoor
